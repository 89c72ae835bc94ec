/- Running programs: impl's basic commands. -/
import Derived.Test.YtcgifoghggajgaaMRunA
import Derived.IntWalk
set_option linter.unusedSimpArgs false
set_option linter.unusedVariables false
namespace Go.Proofs.Ytcgifoghggajgaa
open Go Go.RowKit Go.Proofs

--@ (*impl.machine).basic
theorem Blk.drewX {w : World} {g : Nat} {t : TypeId} {cs : Array Value} (h : Blk w g t cs) : Blk w.drew g t cs := h
set_option maxRecDepth 100000 in
set_option maxHeartbeats 3200000 in
theorem basic_set (w : World) (B g : Nat) (s : Ste) (f : Nat) (m : Nat) (b : Int) (hm : m < 4) (hb : 0 ≤ b ∧ b ≤ 8) (t : Fct) (vF vA vB vE : Value) (hM : Mach w B g s f) (hs : s.valid = true) :
    Calls Try.prog 259 #[.pointer (some ⟨g, 0, none⟩), .agg #[.int .i64 1, .int .i64 ((m : Int) + 1), .int .i64 b, .bool t.eq, .int .i64 t.a, .int .i64 t.b, vF, vA, vB, vE]] w fun e w' => e = .returned (.int .i64 (basicF s 1 ((m : Int) + 1) b).2) ∧ Mach w' B g (basicF s 1 ((m : Int) + 1) b).1 f ∧ Rf B w w' := by
  have E : Hid (basicF s 1 ((m : Int) + 1) b = (⟨s.values.set m (tval s.values b), s.heap⟩, 0)) := by
    show _ = _
    unfold basicF
    rw [if_pos rfl, show ((m : Int) + 1 - 1).toNat = m by omega]
  rw [E.out]
  have HB := Lib.hid hb
  have hm4 : (m : Int) < 4 := by omega
  have hm8 : (m : Int) < 8 := by omega
  clear hb
  obtain ⟨F, e1, G, e2, hBg, kM, o1, o2, dj⟩ := hM.form
  have hgl := kM.lt
  have h8 := Lib.hid (Ste.valid_len hs)
  have HS := Lib.hid hs
  have V1 := Lib.hid (o1.readsI.2)
  obtain ⟨x, hx⟩ : ∃ x, x = tval s.values ((m : Int) + 1) := ⟨_, rfl⟩
  obtain ⟨y, hy⟩ : ∃ x, x = tval s.values b := ⟨_, rfl⟩
  have hxv : 0 ≤ x ∧ x ≤ 8 := by rw [hx]; exact tval_le (Ste.all_vals hs) _
  have hyv : 0 ≤ y ∧ y ≤ 8 := by rw [hy]; exact tval_le (Ste.all_vals hs) _
  replace hx := Lib.hid hx
  replace hy := Lib.hid hy
  replace o1 := Lib.hid o1
  replace o2 := Lib.hid o2
  replace dj := Lib.hid dj
  clear hM hs
  have hgne : g ≠ w.heap.size := by omega
  go_enter Try.func259, Try.ntmps259
  have k00 : Blk (w.alloc (.cells #[.int .i64 1, .int .i64 ((m : Int) + 1), .int .i64 b, .bool t.eq, .int .i64 t.a, .int .i64 t.b, vF, vA, vB, vE] tC)) w.heap.size tC #[.int .i64 1, .int .i64 ((m : Int) + 1), .int .i64 b, .bool t.eq, .int .i64 t.a, .int .i64 t.b, vF, vA, vB, vE] := Blk.new _ _ _
  have kM0 : Blk (w.alloc (.cells #[.int .i64 1, .int .i64 ((m : Int) + 1), .int .i64 b, .bool t.eq, .int .i64 t.a, .int .i64 t.b, vF, vA, vB, vE] tC)) g tM #[.slice F s.values.length e1, .slice G s.heap.length e2, .int .i64 (f : Int)] := kM.alloc _
  go_wp2_with fail
  refine wp_region_noPanic ?_
  refine wp_region_held_drew (S := (fun w' => (∀ j, w'.cell? ⟨w.heap.size, j, none⟩ = #[.int .i64 1, .int .i64 ((m : Int) + 1), .int .i64 b, .bool t.eq, .int .i64 t.a, .int .i64 t.b, vF, vA, vB, vE][j]?) ∧ (∀ j, w'.cell? ⟨g, j, none⟩ = #[.slice F s.values.length e1, .slice G s.heap.length e2, .int .i64 (f : Int)][j]?))) (by kernel_rfl) (⟨k00.cell, kM0.cell⟩) (fun hHeld => ?_)
  refine wpAnyH_take (i := 0) (v := ?_) rfl (by kernel_rfl) (by kernel_rfl) (by kernel_rfl) (fun _ _ _ h => h) (Or.inl ⟨by rfl, fun w hSw => ?_⟩) hHeld ?_
  rotate_left
  · ((try dsimp only at hSw); go_split_ands; go_simp; (try with_reducible rfl))
  try simp only [Act.put, List.getElem_toArray, List.getElem_cons_zero, List.getElem_cons_succ, List.setIfInBounds_toArray, List.set_cons_zero, List.set_cons_succ]
  refine wpAnyH_take (i := 1) (v := ?_) rfl (by kernel_rfl) (by kernel_rfl) (by kernel_rfl) (fun _ _ _ h => h) (Or.inl ⟨by rfl, fun w hSw => ?_⟩) hHeld ?_
  rotate_left
  · ((try dsimp only at hSw); go_split_ands; go_simp; (try with_reducible rfl))
  try simp only [Act.put, List.getElem_toArray, List.getElem_cons_zero, List.getElem_cons_succ, List.setIfInBounds_toArray, List.set_cons_zero, List.set_cons_succ]
  refine wpAnyH_take (i := 2) (v := ?_) rfl (by kernel_rfl) (by kernel_rfl) (by kernel_rfl) (fun _ _ _ h => h) (Or.inl ⟨by rfl, fun w hSw => ?_⟩) hHeld ?_
  rotate_left
  · ((try dsimp only at hSw); go_split_ands; go_simp; (try with_reducible rfl))
  try simp only [Act.put, List.getElem_toArray, List.getElem_cons_zero, List.getElem_cons_succ, List.setIfInBounds_toArray, List.set_cons_zero, List.set_cons_succ]
  refine wpAnyH_take (i := 3) (v := ?_) rfl (by kernel_rfl) (by kernel_rfl) (by kernel_rfl) (fun _ _ _ h => h) (Or.inl ⟨by rfl, fun w hSw => ?_⟩) hHeld ?_
  rotate_left
  · ((try dsimp only at hSw); go_split_ands; go_simp; (try with_reducible rfl))
  try simp only [Act.put, List.getElem_toArray, List.getElem_cons_zero, List.getElem_cons_succ, List.setIfInBounds_toArray, List.set_cons_zero, List.set_cons_succ]
  refine wpAnyH_take (i := 4) (v := ?_) rfl (by kernel_rfl) (by kernel_rfl) (by kernel_rfl) (fun _ _ _ h => h) (Or.inl ⟨by rfl, fun w hSw => ?_⟩) hHeld ?_
  rotate_left
  · ((try dsimp only at hSw); go_split_ands; go_simp; (try with_reducible rfl))
  try simp only [Act.put, List.getElem_toArray, List.getElem_cons_zero, List.getElem_cons_succ, List.setIfInBounds_toArray, List.set_cons_zero, List.set_cons_succ]
  refine wpAnyH_take (i := 5) (v := ?_) rfl (by kernel_rfl) (by kernel_rfl) (by kernel_rfl) (fun _ _ _ h => h) (Or.inl ⟨by rfl, fun w hSw => ?_⟩) hHeld ?_
  rotate_left
  · ((try dsimp only at hSw); go_split_ands; go_simp; (try with_reducible rfl))
  try simp only [Act.put, List.getElem_toArray, List.getElem_cons_zero, List.getElem_cons_succ, List.setIfInBounds_toArray, List.set_cons_zero, List.set_cons_succ]
  refine wpAnyH_take (i := 6) (v := ?_) rfl (by kernel_rfl) (by kernel_rfl) (by kernel_rfl) (fun _ _ _ h => h) (Or.inl ⟨by rfl, fun w hSw => ?_⟩) hHeld ?_
  rotate_left
  · ((try dsimp only at hSw); go_split_ands; go_simp; (try with_reducible rfl))
  try simp only [Act.put, List.getElem_toArray, List.getElem_cons_zero, List.getElem_cons_succ, List.setIfInBounds_toArray, List.set_cons_zero, List.set_cons_succ]
  refine wpAnyH_take (i := 8) (v := ?_) rfl (by kernel_rfl) (by kernel_rfl) (by kernel_rfl) (fun _ _ _ h => h) (Or.inl ⟨by rfl, fun w hSw => ?_⟩) hHeld ?_
  rotate_left
  · ((try dsimp only at hSw); go_split_ands; go_simp; (try with_reducible rfl))
  try simp only [Act.put, List.getElem_toArray, List.getElem_cons_zero, List.getElem_cons_succ, List.setIfInBounds_toArray, List.set_cons_zero, List.set_cons_succ]
  refine wpAnyH_take (i := 9) (v := ?_) rfl (by kernel_rfl) (by kernel_rfl) (by kernel_rfl) (fun _ _ _ h => h) (Or.inl ⟨by rfl, fun w hSw => ?_⟩) hHeld ?_
  rotate_left
  · ((try dsimp only at hSw); go_split_ands; go_simp; (try with_reducible rfl))
  try simp only [Act.put, List.getElem_toArray, List.getElem_cons_zero, List.getElem_cons_succ, List.setIfInBounds_toArray, List.set_cons_zero, List.set_cons_succ]
  refine wpAnyH_take (i := 10) (v := ?_) rfl (by kernel_rfl) (by kernel_rfl) (by kernel_rfl) (fun _ _ _ h => h) (Or.inl ⟨by rfl, fun w hSw => ?_⟩) hHeld ?_
  rotate_left
  · ((try dsimp only at hSw); go_split_ands; go_simp; (try with_reducible rfl))
  try simp only [Act.put, List.getElem_toArray, List.getElem_cons_zero, List.getElem_cons_succ, List.setIfInBounds_toArray, List.set_cons_zero, List.set_cons_succ]
  refine wpAnyH_take (i := 11) (v := ?_) rfl (by kernel_rfl) (by kernel_rfl) (by kernel_rfl) (fun _ _ _ h => h) (Or.inl ⟨by rfl, fun w hSw => ?_⟩) hHeld ?_
  rotate_left
  · ((try dsimp only at hSw); go_split_ands; go_simp; (try with_reducible rfl))
  try simp only [Act.put, List.getElem_toArray, List.getElem_cons_zero, List.getElem_cons_succ, List.setIfInBounds_toArray, List.set_cons_zero, List.set_cons_succ]
  refine wpAnyH_take (i := 12) (v := ?_) rfl (by kernel_rfl) (by kernel_rfl) (by kernel_rfl) (fun _ _ _ h => h) (Or.inl ⟨by rfl, fun w hSw => ?_⟩) hHeld ?_
  rotate_left
  · ((try dsimp only at hSw); go_split_ands; go_simp; (try with_reducible rfl))
  try simp only [Act.put, List.getElem_toArray, List.getElem_cons_zero, List.getElem_cons_succ, List.setIfInBounds_toArray, List.set_cons_zero, List.set_cons_succ]
  refine wpAnyH_take (i := 13) (v := ?_) rfl (by kernel_rfl) (by kernel_rfl) (by kernel_rfl) (fun _ _ _ h => h) (Or.inl ⟨by rfl, fun w hSw => ?_⟩) hHeld ?_
  rotate_left
  · ((try dsimp only at hSw); go_split_ands; go_simp; (try with_reducible rfl))
  try simp only [Act.put, List.getElem_toArray, List.getElem_cons_zero, List.getElem_cons_succ, List.setIfInBounds_toArray, List.set_cons_zero, List.set_cons_succ]
  refine wpAnyH_take (i := 14) (v := ?_) rfl (by kernel_rfl) (by kernel_rfl) (by kernel_rfl) (fun _ _ _ h => h) (Or.inl ⟨by rfl, fun w hSw => ?_⟩) hHeld ?_
  rotate_left
  · ((try dsimp only at hSw); go_split_ands; go_simp; (try with_reducible rfl))
  try simp only [Act.put, List.getElem_toArray, List.getElem_cons_zero, List.getElem_cons_succ, List.setIfInBounds_toArray, List.set_cons_zero, List.set_cons_succ]
  refine wpAnyH_ready (rs := [7]) (by kernel_rfl) (by simp) ?_
  refine AllReadyH.cons rfl (fun K hK => ?_) AllReadyH.nil
  try simp only [List.getElem_toArray, List.getElem_cons_zero, List.getElem_cons_succ]
  (go_simp; refine (c_impl_termValue F e1 s.values ((m : Int) + 1) _ (V1.out.below bel) (by omega) (by rw [h8.out.1]; exact (by omega))).mono ?_; rintro e w3 ⟨rfl, rfl⟩; rw [← hx.out])
  refine hK.out _ _ (⟨k00.cell, kM0.cell⟩) (fun hHeldN => ?_)
  clear hHeld hK K
  have hHeld := hHeldN
  clear hHeldN
  try simp only [Act.put, List.getElem_toArray, List.getElem_cons_zero, List.getElem_cons_succ, List.setIfInBounds_toArray, List.set_cons_zero, List.set_cons_succ]
  refine wpAnyH_ready (rs := [15]) (by kernel_rfl) (by simp) ?_
  refine AllReadyH.cons rfl (fun K hK => ?_) AllReadyH.nil
  try simp only [List.getElem_toArray, List.getElem_cons_zero, List.getElem_cons_succ]
  (go_simp; refine (c_impl_termValue F e1 s.values b _ (V1.out.below bel) HB.out.1 (by rw [h8.out.1]; exact HB.out.2)).mono ?_; rintro e w3 ⟨rfl, rfl⟩; rw [← hy.out])
  refine hK.out _ _ (⟨k00.cell, kM0.cell⟩) (fun hHeldN => ?_)
  clear hHeld hK K
  have hHeld := hHeldN
  clear hHeldN
  try simp only [Act.put, List.getElem_toArray, List.getElem_cons_zero, List.getElem_cons_succ, List.setIfInBounds_toArray, List.set_cons_zero, List.set_cons_succ]
  refine wpAnyH_take (i := 16) (v := ?_) rfl (by kernel_rfl) (by kernel_rfl) (by kernel_rfl) (fun _ _ _ h => h) (Or.inl ⟨by rfl, fun w hSw => ?_⟩) hHeld ?_
  rotate_left
  · ((try dsimp only at hSw); go_split_ands; go_simp; (try with_reducible rfl))
  try simp only [Act.put, List.getElem_toArray, List.getElem_cons_zero, List.getElem_cons_succ, List.setIfInBounds_toArray, List.set_cons_zero, List.set_cons_succ]
  refine wpAnyH_take (i := 17) (v := ?_) rfl (by kernel_rfl) (by kernel_rfl) (by kernel_rfl) (fun _ _ _ h => h) (Or.inl ⟨by rfl, fun w hSw => ?_⟩) hHeld ?_
  rotate_left
  · ((try dsimp only at hSw); go_split_ands; go_simp; (try with_reducible rfl))
  try simp only [Act.put, List.getElem_toArray, List.getElem_cons_zero, List.getElem_cons_succ, List.setIfInBounds_toArray, List.set_cons_zero, List.set_cons_succ]
  refine wpAnyH_done (by kernel_rfl) ?_ _
  refine NoPanic.normal ?_
  obtain ⟨X, hX⟩ : ∃ X, X = (w.alloc (.cells #[.int .i64 1, .int .i64 ((m : Int) + 1), .int .i64 b, .bool t.eq, .int .i64 t.a, .int .i64 t.b, vF, vA, vB, vE] tC)).drew := ⟨_, rfl⟩
  have hBX : Below w.heap.size w X := by rw [hX]; exact bel
  have kX : Blk X w.heap.size tC #[.int .i64 1, .int .i64 ((m : Int) + 1), .int .i64 b, .bool t.eq, .int .i64 t.a, .int .i64 t.b, vF, vA, vB, vE] := by rw [hX]; exact k00.drew
  have kMX : Blk X g tM #[.slice F s.values.length e1, .slice G s.heap.length e2, .int .i64 (f : Int)] := by rw [hX]; exact kM0.drew
  have oX1 := Lib.hid (o1.out.below hBX)
  have oX2 := Lib.hid (o2.out.below hBX)
  have hBw : B ≤ w.heap.size := by omega
  have hBB : Rf B w X := Rf.of hBX hBw
  rw [← hX]
  clear hX k00 kM0 kM V1 hHeld o1 o2
  (replace qkX := kX.cell; replace rkX := kX.frozen; replace lkX := kX.lt; replace qkMX := kMX.cell; replace rkMX := kMX.frozen; replace lkMX := kMX.lt)
  have hvl := h8.out.1
  obtain ⟨gv, cur, -, rfl, hgv, kg, hc, hset⟩ := oX1.out.cell_ (k := m) (by omega)
  have q := kg.cell m
  rw [hc] at q
  obtain ⟨z, hz⟩ : ∃ z, z = s.values[m]'(by omega) := ⟨_, rfl⟩
  rw [← hz] at q
  have fq := kg.frozen m
  have hgvl := kg.lt
  have hne : g ≠ gv := kMX.ne_ kg (by decide)
  have HSET := Lib.hid (hset y)
  have hml : (m : Int) < (s.values.length : Int) := by omega
  have hwm : IntKind.i64.wrap (m : Int) = (m : Int) := IntWalk.i64_in _ (by omega)
  replace hc := Lib.hid hc
  clear hset hc hz hvl
  go_wp2_with fail
  refine wp_region_noPanic ?_
  refine wp_region_last' (S := (fun w' => (∀ j, w'.cell? ⟨w.heap.size, j, none⟩ = #[.int .i64 1, .int .i64 ((m : Int) + 1), .int .i64 b, .bool t.eq, .int .i64 t.a, .int .i64 t.b, vF, vA, vB, vE][j]?) ∧ (∀ j, w'.cell? ⟨g, j, none⟩ = #[.slice (some ⟨gv, 0, none⟩) s.values.length e1, .slice G s.heap.length e2, .int .i64 (f : Int)][j]?) ∧ w'.cell? ⟨gv, m, none⟩ = some (.int .i64 z) ∧ w'.frozen? ⟨gv, m, none⟩ = false)) (by simp) (by kernel_rfl) (by kernel_rfl) (⟨kX.cell, kMX.cell, q, fq⟩) (fun hHeld => ?_)
  simp only [List.dropLast, List.getLast, nopOf, List.cons_append, List.nil_append, List.length_cons, List.length_nil, Nat.zero_add, Nat.reduceAdd]
  refine wpAnyH_take (i := 0) (v := ?_) rfl (by kernel_rfl) (by kernel_rfl) (by kernel_rfl) (fun _ _ _ h => h) (Or.inl ⟨by rfl, fun w hSw => ?_⟩) hHeld ?_
  rotate_left
  · ((try dsimp only at hSw); go_split_ands; go_simp; (try with_reducible rfl))
  try simp only [Act.put, List.getElem_toArray, List.getElem_cons_zero, List.getElem_cons_succ, List.setIfInBounds_toArray, List.set_cons_zero, List.set_cons_succ]
  refine wpAnyH_take (i := 1) (v := ?_) rfl (by kernel_rfl) (by kernel_rfl) (by kernel_rfl) (fun _ _ _ h => h) (Or.inl ⟨by rfl, fun w hSw => ?_⟩) hHeld ?_
  rotate_left
  · ((try dsimp only at hSw); go_split_ands; go_simp; (try with_reducible rfl))
  try simp only [Act.put, List.getElem_toArray, List.getElem_cons_zero, List.getElem_cons_succ, List.setIfInBounds_toArray, List.set_cons_zero, List.set_cons_succ]
  refine wpAnyH_take (i := 2) (v := ?_) rfl (by kernel_rfl) (by kernel_rfl) (by kernel_rfl) (fun _ _ _ h => h) (Or.inl ⟨by rfl, fun w hSw => ?_⟩) hHeld ?_
  rotate_left
  · ((try dsimp only at hSw); go_split_ands; go_simp; (try with_reducible rfl))
  try simp only [Act.put, List.getElem_toArray, List.getElem_cons_zero, List.getElem_cons_succ, List.setIfInBounds_toArray, List.set_cons_zero, List.set_cons_succ]
  refine wpAnyH_take (i := 3) (v := ?_) rfl (by kernel_rfl) (by kernel_rfl) (by kernel_rfl) (fun _ _ _ h => h) (Or.inl ⟨by rfl, fun w hSw => ?_⟩) hHeld ?_
  rotate_left
  · ((try dsimp only at hSw); go_split_ands; go_simp; (try with_reducible rfl))
  try simp only [Act.put, List.getElem_toArray, List.getElem_cons_zero, List.getElem_cons_succ, List.setIfInBounds_toArray, List.set_cons_zero, List.set_cons_succ]
  refine wpAnyH_take (i := 4) (v := ?_) rfl (by kernel_rfl) (by kernel_rfl) (by kernel_rfl) (fun _ _ _ h => h) (Or.inl ⟨by rfl, fun w hSw => ?_⟩) hHeld ?_
  rotate_left
  · ((try dsimp only at hSw); go_split_ands; go_simp; (try with_reducible rfl))
  try simp only [Act.put, List.getElem_toArray, List.getElem_cons_zero, List.getElem_cons_succ, List.setIfInBounds_toArray, List.set_cons_zero, List.set_cons_succ]
  refine wpAnyH_take (i := 5) (v := ?_) rfl (by kernel_rfl) (by kernel_rfl) (by kernel_rfl) (fun _ _ _ h => h) (Or.inl ⟨by rfl, fun w hSw => ?_⟩) hHeld ?_
  rotate_left
  · ((try dsimp only at hSw); go_split_ands; go_simp; (try with_reducible rfl))
  try simp only [Act.put, List.getElem_toArray, List.getElem_cons_zero, List.getElem_cons_succ, List.setIfInBounds_toArray, List.set_cons_zero, List.set_cons_succ]
  refine wpAnyH_take (i := 6) (v := ?_) rfl (by kernel_rfl) (by kernel_rfl) (by kernel_rfl) (fun _ _ _ h => h) (Or.inl ⟨by rfl, fun w hSw => ?_⟩) hHeld ?_
  rotate_left
  · ((try dsimp only at hSw); go_split_ands; go_simp; (try with_reducible rfl))
  try simp only [Act.put, List.getElem_toArray, List.getElem_cons_zero, List.getElem_cons_succ, List.setIfInBounds_toArray, List.set_cons_zero, List.set_cons_succ]
  refine wpAnyH_take (i := 7) (v := ?_) rfl (by kernel_rfl) (by kernel_rfl) (by kernel_rfl) (fun _ _ _ h => h) (Or.inl ⟨by rfl, fun w hSw => ?_⟩) hHeld ?_
  rotate_left
  · ((try dsimp only at hSw); go_split_ands; go_simp; (try with_reducible rfl))
  try simp only [Act.put, List.getElem_toArray, List.getElem_cons_zero, List.getElem_cons_succ, List.setIfInBounds_toArray, List.set_cons_zero, List.set_cons_succ]
  refine wpAnyH_take (i := 8) (v := ?_) rfl (by kernel_rfl) (by kernel_rfl) (by kernel_rfl) (fun _ _ _ h => h) (Or.inl ⟨by rfl, fun w hSw => ?_⟩) hHeld ?_
  rotate_left
  · ((try dsimp only at hSw); go_split_ands; go_simp; (try with_reducible rfl))
  try simp only [Act.put, List.getElem_toArray, List.getElem_cons_zero, List.getElem_cons_succ, List.setIfInBounds_toArray, List.set_cons_zero, List.set_cons_succ]
  refine wpAnyH_take (i := 9) (v := ?_) rfl (by kernel_rfl) (by kernel_rfl) (by kernel_rfl) (fun _ _ _ h => h) (Or.inl ⟨by rfl, fun w hSw => ?_⟩) hHeld ?_
  rotate_left
  · ((try dsimp only at hSw); go_split_ands; go_simp; (try with_reducible rfl))
  try simp only [Act.put, List.getElem_toArray, List.getElem_cons_zero, List.getElem_cons_succ, List.setIfInBounds_toArray, List.set_cons_zero, List.set_cons_succ]
  refine wpAnyH_ready (rs := [10]) (by kernel_rfl) (by simp) ?_
  refine AllReadyH.cons rfl (fun K hK => ?_) AllReadyH.nil
  go_simp
  refine hK.out _ _ (⟨kX.cell, kMX.cell, q, fq⟩) (fun hHeld => ?_)
  clear hK K
  refine wpAnyH_done (by kernel_rfl) ?_ _
  unfold lastQ
  go_simp
  refine NoPanic.normal ?_
  go_wp2_with fail
  go_ret
  refine ⟨rfl, ⟨hBg, _, _, kMX.drewX.far (p := ⟨gv, m, none⟩) hne _, _, _, rfl, ?_, ?_, dj.out⟩, hBB.drew.set (p := ⟨gv, m, none⟩) kg.drewX (by decide) hgv _⟩
  · rw [← hy.out]; exact HSET.out
  · exact oX2.out.set_ne (q := ⟨gv, m, none⟩) (dj.out gv rfl) _
--@ (*impl.machine).basic
set_option maxRecDepth 100000 in
set_option maxHeartbeats 3200000 in
theorem basic_load (w : World) (B g : Nat) (s : Ste) (f : Nat) (m : Nat) (b : Int) (hm : m < 4) (hb : 0 ≤ b ∧ b ≤ 8) (t : Fct) (vF vA vB vE : Value) (hM : Mach w B g s f) (hs : s.valid = true) :
    Calls Try.prog 259 #[.pointer (some ⟨g, 0, none⟩), .agg #[.int .i64 2, .int .i64 ((m : Int) + 1), .int .i64 b, .bool t.eq, .int .i64 t.a, .int .i64 t.b, vF, vA, vB, vE]] w fun e w' => e = .returned (.int .i64 (basicF s 2 ((m : Int) + 1) b).2) ∧ Mach w' B g (basicF s 2 ((m : Int) + 1) b).1 f ∧ Rf B w w' := by
  have HB := Lib.hid hb
  have hm4 : (m : Int) < 4 := by omega
  have hm8 : (m : Int) < 8 := by omega
  clear hb
  obtain ⟨F, e1, G, e2, hBg, kM, o1, o2, dj⟩ := hM.form
  have hgl := kM.lt
  have h8 := Lib.hid (Ste.valid_len hs)
  have HS := Lib.hid hs
  have V1 := Lib.hid (o1.readsI.2)
  obtain ⟨x, hx⟩ : ∃ x, x = tval s.values ((m : Int) + 1) := ⟨_, rfl⟩
  obtain ⟨y, hy⟩ : ∃ x, x = tval s.values b := ⟨_, rfl⟩
  have hxv : 0 ≤ x ∧ x ≤ 8 := by rw [hx]; exact tval_le (Ste.all_vals hs) _
  have hyv : 0 ≤ y ∧ y ≤ 8 := by rw [hy]; exact tval_le (Ste.all_vals hs) _
  replace hx := Lib.hid hx
  replace hy := Lib.hid hy
  replace o1 := Lib.hid o1
  replace o2 := Lib.hid o2
  replace dj := Lib.hid dj
  clear hM hs
  have hgne : g ≠ w.heap.size := by omega
  go_enter Try.func259, Try.ntmps259
  have k00 : Blk (w.alloc (.cells #[.int .i64 2, .int .i64 ((m : Int) + 1), .int .i64 b, .bool t.eq, .int .i64 t.a, .int .i64 t.b, vF, vA, vB, vE] tC)) w.heap.size tC #[.int .i64 2, .int .i64 ((m : Int) + 1), .int .i64 b, .bool t.eq, .int .i64 t.a, .int .i64 t.b, vF, vA, vB, vE] := Blk.new _ _ _
  have kM0 : Blk (w.alloc (.cells #[.int .i64 2, .int .i64 ((m : Int) + 1), .int .i64 b, .bool t.eq, .int .i64 t.a, .int .i64 t.b, vF, vA, vB, vE] tC)) g tM #[.slice F s.values.length e1, .slice G s.heap.length e2, .int .i64 (f : Int)] := kM.alloc _
  go_wp2_with fail
  refine wp_region_noPanic ?_
  refine wp_region_held_drew (S := (fun w' => (∀ j, w'.cell? ⟨w.heap.size, j, none⟩ = #[.int .i64 2, .int .i64 ((m : Int) + 1), .int .i64 b, .bool t.eq, .int .i64 t.a, .int .i64 t.b, vF, vA, vB, vE][j]?) ∧ (∀ j, w'.cell? ⟨g, j, none⟩ = #[.slice F s.values.length e1, .slice G s.heap.length e2, .int .i64 (f : Int)][j]?))) (by kernel_rfl) (⟨k00.cell, kM0.cell⟩) (fun hHeld => ?_)
  refine wpAnyH_take (i := 0) (v := ?_) rfl (by kernel_rfl) (by kernel_rfl) (by kernel_rfl) (fun _ _ _ h => h) (Or.inl ⟨by rfl, fun w hSw => ?_⟩) hHeld ?_
  rotate_left
  · ((try dsimp only at hSw); go_split_ands; go_simp; (try with_reducible rfl))
  try simp only [Act.put, List.getElem_toArray, List.getElem_cons_zero, List.getElem_cons_succ, List.setIfInBounds_toArray, List.set_cons_zero, List.set_cons_succ]
  refine wpAnyH_take (i := 1) (v := ?_) rfl (by kernel_rfl) (by kernel_rfl) (by kernel_rfl) (fun _ _ _ h => h) (Or.inl ⟨by rfl, fun w hSw => ?_⟩) hHeld ?_
  rotate_left
  · ((try dsimp only at hSw); go_split_ands; go_simp; (try with_reducible rfl))
  try simp only [Act.put, List.getElem_toArray, List.getElem_cons_zero, List.getElem_cons_succ, List.setIfInBounds_toArray, List.set_cons_zero, List.set_cons_succ]
  refine wpAnyH_take (i := 2) (v := ?_) rfl (by kernel_rfl) (by kernel_rfl) (by kernel_rfl) (fun _ _ _ h => h) (Or.inl ⟨by rfl, fun w hSw => ?_⟩) hHeld ?_
  rotate_left
  · ((try dsimp only at hSw); go_split_ands; go_simp; (try with_reducible rfl))
  try simp only [Act.put, List.getElem_toArray, List.getElem_cons_zero, List.getElem_cons_succ, List.setIfInBounds_toArray, List.set_cons_zero, List.set_cons_succ]
  refine wpAnyH_take (i := 3) (v := ?_) rfl (by kernel_rfl) (by kernel_rfl) (by kernel_rfl) (fun _ _ _ h => h) (Or.inl ⟨by rfl, fun w hSw => ?_⟩) hHeld ?_
  rotate_left
  · ((try dsimp only at hSw); go_split_ands; go_simp; (try with_reducible rfl))
  try simp only [Act.put, List.getElem_toArray, List.getElem_cons_zero, List.getElem_cons_succ, List.setIfInBounds_toArray, List.set_cons_zero, List.set_cons_succ]
  refine wpAnyH_take (i := 4) (v := ?_) rfl (by kernel_rfl) (by kernel_rfl) (by kernel_rfl) (fun _ _ _ h => h) (Or.inl ⟨by rfl, fun w hSw => ?_⟩) hHeld ?_
  rotate_left
  · ((try dsimp only at hSw); go_split_ands; go_simp; (try with_reducible rfl))
  try simp only [Act.put, List.getElem_toArray, List.getElem_cons_zero, List.getElem_cons_succ, List.setIfInBounds_toArray, List.set_cons_zero, List.set_cons_succ]
  refine wpAnyH_take (i := 5) (v := ?_) rfl (by kernel_rfl) (by kernel_rfl) (by kernel_rfl) (fun _ _ _ h => h) (Or.inl ⟨by rfl, fun w hSw => ?_⟩) hHeld ?_
  rotate_left
  · ((try dsimp only at hSw); go_split_ands; go_simp; (try with_reducible rfl))
  try simp only [Act.put, List.getElem_toArray, List.getElem_cons_zero, List.getElem_cons_succ, List.setIfInBounds_toArray, List.set_cons_zero, List.set_cons_succ]
  refine wpAnyH_take (i := 6) (v := ?_) rfl (by kernel_rfl) (by kernel_rfl) (by kernel_rfl) (fun _ _ _ h => h) (Or.inl ⟨by rfl, fun w hSw => ?_⟩) hHeld ?_
  rotate_left
  · ((try dsimp only at hSw); go_split_ands; go_simp; (try with_reducible rfl))
  try simp only [Act.put, List.getElem_toArray, List.getElem_cons_zero, List.getElem_cons_succ, List.setIfInBounds_toArray, List.set_cons_zero, List.set_cons_succ]
  refine wpAnyH_take (i := 8) (v := ?_) rfl (by kernel_rfl) (by kernel_rfl) (by kernel_rfl) (fun _ _ _ h => h) (Or.inl ⟨by rfl, fun w hSw => ?_⟩) hHeld ?_
  rotate_left
  · ((try dsimp only at hSw); go_split_ands; go_simp; (try with_reducible rfl))
  try simp only [Act.put, List.getElem_toArray, List.getElem_cons_zero, List.getElem_cons_succ, List.setIfInBounds_toArray, List.set_cons_zero, List.set_cons_succ]
  refine wpAnyH_take (i := 9) (v := ?_) rfl (by kernel_rfl) (by kernel_rfl) (by kernel_rfl) (fun _ _ _ h => h) (Or.inl ⟨by rfl, fun w hSw => ?_⟩) hHeld ?_
  rotate_left
  · ((try dsimp only at hSw); go_split_ands; go_simp; (try with_reducible rfl))
  try simp only [Act.put, List.getElem_toArray, List.getElem_cons_zero, List.getElem_cons_succ, List.setIfInBounds_toArray, List.set_cons_zero, List.set_cons_succ]
  refine wpAnyH_take (i := 10) (v := ?_) rfl (by kernel_rfl) (by kernel_rfl) (by kernel_rfl) (fun _ _ _ h => h) (Or.inl ⟨by rfl, fun w hSw => ?_⟩) hHeld ?_
  rotate_left
  · ((try dsimp only at hSw); go_split_ands; go_simp; (try with_reducible rfl))
  try simp only [Act.put, List.getElem_toArray, List.getElem_cons_zero, List.getElem_cons_succ, List.setIfInBounds_toArray, List.set_cons_zero, List.set_cons_succ]
  refine wpAnyH_take (i := 11) (v := ?_) rfl (by kernel_rfl) (by kernel_rfl) (by kernel_rfl) (fun _ _ _ h => h) (Or.inl ⟨by rfl, fun w hSw => ?_⟩) hHeld ?_
  rotate_left
  · ((try dsimp only at hSw); go_split_ands; go_simp; (try with_reducible rfl))
  try simp only [Act.put, List.getElem_toArray, List.getElem_cons_zero, List.getElem_cons_succ, List.setIfInBounds_toArray, List.set_cons_zero, List.set_cons_succ]
  refine wpAnyH_take (i := 12) (v := ?_) rfl (by kernel_rfl) (by kernel_rfl) (by kernel_rfl) (fun _ _ _ h => h) (Or.inl ⟨by rfl, fun w hSw => ?_⟩) hHeld ?_
  rotate_left
  · ((try dsimp only at hSw); go_split_ands; go_simp; (try with_reducible rfl))
  try simp only [Act.put, List.getElem_toArray, List.getElem_cons_zero, List.getElem_cons_succ, List.setIfInBounds_toArray, List.set_cons_zero, List.set_cons_succ]
  refine wpAnyH_take (i := 13) (v := ?_) rfl (by kernel_rfl) (by kernel_rfl) (by kernel_rfl) (fun _ _ _ h => h) (Or.inl ⟨by rfl, fun w hSw => ?_⟩) hHeld ?_
  rotate_left
  · ((try dsimp only at hSw); go_split_ands; go_simp; (try with_reducible rfl))
  try simp only [Act.put, List.getElem_toArray, List.getElem_cons_zero, List.getElem_cons_succ, List.setIfInBounds_toArray, List.set_cons_zero, List.set_cons_succ]
  refine wpAnyH_take (i := 14) (v := ?_) rfl (by kernel_rfl) (by kernel_rfl) (by kernel_rfl) (fun _ _ _ h => h) (Or.inl ⟨by rfl, fun w hSw => ?_⟩) hHeld ?_
  rotate_left
  · ((try dsimp only at hSw); go_split_ands; go_simp; (try with_reducible rfl))
  try simp only [Act.put, List.getElem_toArray, List.getElem_cons_zero, List.getElem_cons_succ, List.setIfInBounds_toArray, List.set_cons_zero, List.set_cons_succ]
  refine wpAnyH_ready (rs := [7]) (by kernel_rfl) (by simp) ?_
  refine AllReadyH.cons rfl (fun K hK => ?_) AllReadyH.nil
  try simp only [List.getElem_toArray, List.getElem_cons_zero, List.getElem_cons_succ]
  (go_simp; refine (c_impl_termValue F e1 s.values ((m : Int) + 1) _ (V1.out.below bel) (by omega) (by rw [h8.out.1]; exact (by omega))).mono ?_; rintro e w3 ⟨rfl, rfl⟩; rw [← hx.out])
  refine hK.out _ _ (⟨k00.cell, kM0.cell⟩) (fun hHeldN => ?_)
  clear hHeld hK K
  have hHeld := hHeldN
  clear hHeldN
  try simp only [Act.put, List.getElem_toArray, List.getElem_cons_zero, List.getElem_cons_succ, List.setIfInBounds_toArray, List.set_cons_zero, List.set_cons_succ]
  refine wpAnyH_ready (rs := [15]) (by kernel_rfl) (by simp) ?_
  refine AllReadyH.cons rfl (fun K hK => ?_) AllReadyH.nil
  try simp only [List.getElem_toArray, List.getElem_cons_zero, List.getElem_cons_succ]
  (go_simp; refine (c_impl_termValue F e1 s.values b _ (V1.out.below bel) HB.out.1 (by rw [h8.out.1]; exact HB.out.2)).mono ?_; rintro e w3 ⟨rfl, rfl⟩; rw [← hy.out])
  refine hK.out _ _ (⟨k00.cell, kM0.cell⟩) (fun hHeldN => ?_)
  clear hHeld hK K
  have hHeld := hHeldN
  clear hHeldN
  try simp only [Act.put, List.getElem_toArray, List.getElem_cons_zero, List.getElem_cons_succ, List.setIfInBounds_toArray, List.set_cons_zero, List.set_cons_succ]
  refine wpAnyH_take (i := 16) (v := ?_) rfl (by kernel_rfl) (by kernel_rfl) (by kernel_rfl) (fun _ _ _ h => h) (Or.inl ⟨by rfl, fun w hSw => ?_⟩) hHeld ?_
  rotate_left
  · ((try dsimp only at hSw); go_split_ands; go_simp; (try with_reducible rfl))
  try simp only [Act.put, List.getElem_toArray, List.getElem_cons_zero, List.getElem_cons_succ, List.setIfInBounds_toArray, List.set_cons_zero, List.set_cons_succ]
  refine wpAnyH_take (i := 17) (v := ?_) rfl (by kernel_rfl) (by kernel_rfl) (by kernel_rfl) (fun _ _ _ h => h) (Or.inl ⟨by rfl, fun w hSw => ?_⟩) hHeld ?_
  rotate_left
  · ((try dsimp only at hSw); go_split_ands; go_simp; (try with_reducible rfl))
  try simp only [Act.put, List.getElem_toArray, List.getElem_cons_zero, List.getElem_cons_succ, List.setIfInBounds_toArray, List.set_cons_zero, List.set_cons_succ]
  refine wpAnyH_done (by kernel_rfl) ?_ _
  refine NoPanic.normal ?_
  obtain ⟨X, hX⟩ : ∃ X, X = (w.alloc (.cells #[.int .i64 2, .int .i64 ((m : Int) + 1), .int .i64 b, .bool t.eq, .int .i64 t.a, .int .i64 t.b, vF, vA, vB, vE] tC)).drew := ⟨_, rfl⟩
  have hBX : Below w.heap.size w X := by rw [hX]; exact bel
  have kX : Blk X w.heap.size tC #[.int .i64 2, .int .i64 ((m : Int) + 1), .int .i64 b, .bool t.eq, .int .i64 t.a, .int .i64 t.b, vF, vA, vB, vE] := by rw [hX]; exact k00.drew
  have kMX : Blk X g tM #[.slice F s.values.length e1, .slice G s.heap.length e2, .int .i64 (f : Int)] := by rw [hX]; exact kM0.drew
  have oX1 := Lib.hid (o1.out.below hBX)
  have oX2 := Lib.hid (o2.out.below hBX)
  have hBw : B ≤ w.heap.size := by omega
  have hBB : Rf B w X := Rf.of hBX hBw
  rw [← hX]
  clear hX k00 kM0 kM V1 hHeld o1 o2
  (replace qkX := kX.cell; replace rkX := kX.frozen; replace lkX := kX.lt; replace qkMX := kMX.cell; replace rkMX := kMX.frozen; replace lkMX := kMX.lt)
  have hSV : Hid (StateV X B X.heap.size (.agg #[.slice F s.values.length e1, .slice G s.heap.length e2]) s) := ⟨_, _, _, _, rfl, oX1.out.readsI.2, oX2.out.readsI.2⟩
  go_wp2_with fail
  refine (c_impl_allocated _ s y _ hSV.out h8.out.2).mono ?_
  rintro e w2 ⟨rfl, hB2⟩
  replace hBB := hBB.go hB2 hBw
  replace kX := kX.next hB2
  replace kMX := kMX.next hB2
  replace oX1 := Lib.hid (oX1.out.below hB2)
  replace oX2 := Lib.hid (oX2.out.below hB2)
  (replace qkX := kX.cell; replace rkX := kX.frozen; replace lkX := kX.lt; replace qkMX := kMX.cell; replace rkMX := kMX.frozen; replace lkMX := kMX.lt)
  clear hSV
  cases ha : allocB s.heap y
  · have E : Hid (basicF s 2 ((m : Int) + 1) b = (s, 1)) := by
      show _ = _
      unfold basicF
      rw [if_neg (by decide), if_pos rfl, ← hy.out, ha]; rfl
    clear ha
    go_wp2_with fail
    go_ret
    rw [E.out]
    exact ⟨rfl, ⟨hBg, _, _, kMX, _, _, rfl, oX1.out, oX2.out, dj.out⟩, hBB⟩
  have E : Hid (basicF s 2 ((m : Int) + 1) b = (⟨s.values.set m (cont s.heap y), s.heap⟩, 0)) := by
    show _ = _
    unfold basicF
    rw [if_neg (by decide), if_pos rfl, ← hy.out, ha, if_pos rfl, show ((m : Int) + 1 - 1).toNat = m by omega]
  have hcont := cont_le (Ste.all_heap HS.out) y
  clear ha
  obtain ⟨u, hu⟩ : ∃ u, u = cont s.heap y := ⟨_, rfl⟩
  rw [← hu] at hcont
  replace hu := Lib.hid hu
  have hvl := h8.out.1
  obtain ⟨gv, cur, -, rfl, hgv, kg, hc, hset⟩ := oX1.out.cell_ (k := m) (by omega)
  have q := kg.cell m
  rw [hc] at q
  obtain ⟨z, hz⟩ : ∃ z, z = s.values[m]'(by omega) := ⟨_, rfl⟩
  rw [← hz] at q
  have fq := kg.frozen m
  have hgvl := kg.lt
  have hne : g ≠ gv := kMX.ne_ kg (by decide)
  have HSET := Lib.hid (hset u)
  have hml : (m : Int) < (s.values.length : Int) := by omega
  have hwm : IntKind.i64.wrap (m : Int) = (m : Int) := IntWalk.i64_in _ (by omega)
  replace hc := Lib.hid hc
  clear hset hc hz hvl
  have hSV : Hid (StateV w2 B w2.heap.size (.agg #[.slice (some ⟨gv, 0, none⟩) s.values.length e1, .slice G s.heap.length e2]) s) := ⟨_, _, _, _, rfl, oX1.out.readsI.2, oX2.out.readsI.2⟩
  have oX1 := Lib.hid oX1.out
  go_wp2_with fail
  refine wp_region_noPanic ?_
  refine wp_region_last' (S := (fun w' => (∀ j, w'.cell? ⟨w.heap.size, j, none⟩ = #[.int .i64 2, .int .i64 ((m : Int) + 1), .int .i64 b, .bool t.eq, .int .i64 t.a, .int .i64 t.b, vF, vA, vB, vE][j]?) ∧ (∀ j, w'.cell? ⟨g, j, none⟩ = #[.slice (some ⟨gv, 0, none⟩) s.values.length e1, .slice G s.heap.length e2, .int .i64 (f : Int)][j]?) ∧ w'.cell? ⟨gv, m, none⟩ = some (.int .i64 z) ∧ w'.frozen? ⟨gv, m, none⟩ = false)) (by simp) (by kernel_rfl) (by kernel_rfl) (⟨kX.cell, kMX.cell, q, fq⟩) (fun hHeld => ?_)
  simp only [List.dropLast, List.getLast, nopOf, List.cons_append, List.nil_append, List.length_cons, List.length_nil, Nat.zero_add, Nat.reduceAdd]
  refine wpAnyH_take (i := 0) (v := ?_) rfl (by kernel_rfl) (by kernel_rfl) (by kernel_rfl) (fun _ _ _ h => h) (Or.inl ⟨by rfl, fun w hSw => ?_⟩) hHeld ?_
  rotate_left
  · ((try dsimp only at hSw); go_split_ands; go_simp; (try with_reducible rfl))
  try simp only [Act.put, List.getElem_toArray, List.getElem_cons_zero, List.getElem_cons_succ, List.setIfInBounds_toArray, List.set_cons_zero, List.set_cons_succ]
  refine wpAnyH_take (i := 1) (v := ?_) rfl (by kernel_rfl) (by kernel_rfl) (by kernel_rfl) (fun _ _ _ h => h) (Or.inl ⟨by rfl, fun w hSw => ?_⟩) hHeld ?_
  rotate_left
  · ((try dsimp only at hSw); go_split_ands; go_simp; (try with_reducible rfl))
  try simp only [Act.put, List.getElem_toArray, List.getElem_cons_zero, List.getElem_cons_succ, List.setIfInBounds_toArray, List.set_cons_zero, List.set_cons_succ]
  refine wpAnyH_take (i := 2) (v := ?_) rfl (by kernel_rfl) (by kernel_rfl) (by kernel_rfl) (fun _ _ _ h => h) (Or.inl ⟨by rfl, fun w hSw => ?_⟩) hHeld ?_
  rotate_left
  · ((try dsimp only at hSw); go_split_ands; go_simp; (try with_reducible rfl))
  try simp only [Act.put, List.getElem_toArray, List.getElem_cons_zero, List.getElem_cons_succ, List.setIfInBounds_toArray, List.set_cons_zero, List.set_cons_succ]
  refine wpAnyH_take (i := 3) (v := ?_) rfl (by kernel_rfl) (by kernel_rfl) (by kernel_rfl) (fun _ _ _ h => h) (Or.inl ⟨by rfl, fun w hSw => ?_⟩) hHeld ?_
  rotate_left
  · ((try dsimp only at hSw); go_split_ands; go_simp; (try with_reducible rfl))
  try simp only [Act.put, List.getElem_toArray, List.getElem_cons_zero, List.getElem_cons_succ, List.setIfInBounds_toArray, List.set_cons_zero, List.set_cons_succ]
  refine wpAnyH_take (i := 4) (v := ?_) rfl (by kernel_rfl) (by kernel_rfl) (by kernel_rfl) (fun _ _ _ h => h) (Or.inl ⟨by rfl, fun w hSw => ?_⟩) hHeld ?_
  rotate_left
  · ((try dsimp only at hSw); go_split_ands; go_simp; (try with_reducible rfl))
  try simp only [Act.put, List.getElem_toArray, List.getElem_cons_zero, List.getElem_cons_succ, List.setIfInBounds_toArray, List.set_cons_zero, List.set_cons_succ]
  refine wpAnyH_take (i := 5) (v := ?_) rfl (by kernel_rfl) (by kernel_rfl) (by kernel_rfl) (fun _ _ _ h => h) (Or.inl ⟨by rfl, fun w hSw => ?_⟩) hHeld ?_
  rotate_left
  · ((try dsimp only at hSw); go_split_ands; go_simp; (try with_reducible rfl))
  try simp only [Act.put, List.getElem_toArray, List.getElem_cons_zero, List.getElem_cons_succ, List.setIfInBounds_toArray, List.set_cons_zero, List.set_cons_succ]
  refine wpAnyH_take (i := 6) (v := ?_) rfl (by kernel_rfl) (by kernel_rfl) (by kernel_rfl) (fun _ _ _ h => h) (Or.inl ⟨by rfl, fun w hSw => ?_⟩) hHeld ?_
  rotate_left
  · ((try dsimp only at hSw); go_split_ands; go_simp; (try with_reducible rfl))
  try simp only [Act.put, List.getElem_toArray, List.getElem_cons_zero, List.getElem_cons_succ, List.setIfInBounds_toArray, List.set_cons_zero, List.set_cons_succ]
  refine wpAnyH_take (i := 7) (v := ?_) rfl (by kernel_rfl) (by kernel_rfl) (by kernel_rfl) (fun _ _ _ h => h) (Or.inl ⟨by rfl, fun w hSw => ?_⟩) hHeld ?_
  rotate_left
  · ((try dsimp only at hSw); go_split_ands; go_simp; (try with_reducible rfl))
  try simp only [Act.put, List.getElem_toArray, List.getElem_cons_zero, List.getElem_cons_succ, List.setIfInBounds_toArray, List.set_cons_zero, List.set_cons_succ]
  refine wpAnyH_take (i := 8) (v := ?_) rfl (by kernel_rfl) (by kernel_rfl) (by kernel_rfl) (fun _ _ _ h => h) (Or.inl ⟨by rfl, fun w hSw => ?_⟩) hHeld ?_
  rotate_left
  · ((try dsimp only at hSw); go_split_ands; go_simp; (try with_reducible rfl))
  try simp only [Act.put, List.getElem_toArray, List.getElem_cons_zero, List.getElem_cons_succ, List.setIfInBounds_toArray, List.set_cons_zero, List.set_cons_succ]
  refine wpAnyH_take (i := 9) (v := ?_) rfl (by kernel_rfl) (by kernel_rfl) (by kernel_rfl) (fun _ _ _ h => h) (Or.inl ⟨by rfl, fun w hSw => ?_⟩) hHeld ?_
  rotate_left
  · ((try dsimp only at hSw); go_split_ands; go_simp; (try with_reducible rfl))
  try simp only [Act.put, List.getElem_toArray, List.getElem_cons_zero, List.getElem_cons_succ, List.setIfInBounds_toArray, List.set_cons_zero, List.set_cons_succ]
  refine wpAnyH_take (i := 10) (v := ?_) rfl (by kernel_rfl) (by kernel_rfl) (by kernel_rfl) (fun _ _ _ h => h) (Or.inl ⟨by rfl, fun w hSw => ?_⟩) hHeld ?_
  rotate_left
  · ((try dsimp only at hSw); go_split_ands; go_simp; (try with_reducible rfl))
  try simp only [Act.put, List.getElem_toArray, List.getElem_cons_zero, List.getElem_cons_succ, List.setIfInBounds_toArray, List.set_cons_zero, List.set_cons_succ]
  refine wpAnyH_take (i := 11) (v := ?_) rfl (by kernel_rfl) (by kernel_rfl) (by kernel_rfl) (fun _ _ _ h => h) (Or.inl ⟨by rfl, fun w hSw => ?_⟩) hHeld ?_
  rotate_left
  · ((try dsimp only at hSw); go_split_ands; go_simp; (try with_reducible rfl))
  try simp only [Act.put, List.getElem_toArray, List.getElem_cons_zero, List.getElem_cons_succ, List.setIfInBounds_toArray, List.set_cons_zero, List.set_cons_succ]
  refine wpAnyH_take (i := 12) (v := ?_) rfl (by kernel_rfl) (by kernel_rfl) (by kernel_rfl) (fun _ _ _ h => h) (Or.inl ⟨by rfl, fun w hSw => ?_⟩) hHeld ?_
  rotate_left
  · ((try dsimp only at hSw); go_split_ands; go_simp; (try with_reducible rfl))
  try simp only [Act.put, List.getElem_toArray, List.getElem_cons_zero, List.getElem_cons_succ, List.setIfInBounds_toArray, List.set_cons_zero, List.set_cons_succ]
  refine wpAnyH_ready (rs := [13]) (by kernel_rfl) (by simp) ?_
  refine AllReadyH.cons rfl (fun K hK => ?_) AllReadyH.nil
  try simp only [List.getElem_toArray, List.getElem_cons_zero, List.getElem_cons_succ]
  (go_simp; refine (c_impl_content _ s y _ (hSV.out.below bel) h8.out.2).mono ?_; rintro e w4 ⟨rfl, hB4⟩; rw [← hu.out]; have B4 : Below w2.heap.size w2 w4 := bgo (Below.refl _ _).drew hB4; have kX4 := kX.next B4; have kM4 := kMX.next B4; have q4 := (B4.cell (p := ⟨gv, m, none⟩) hgvl).trans q; have fq4 := (B4.frozen (p := ⟨gv, m, none⟩) hgvl).trans fq)
  refine hK.out _ _ (⟨kX4.cell, kM4.cell, q4, fq4⟩) (fun hHeldN => ?_)
  clear hHeld hK K
  have hHeld := hHeldN
  clear hHeldN
  try simp only [Act.put, List.getElem_toArray, List.getElem_cons_zero, List.getElem_cons_succ, List.setIfInBounds_toArray, List.set_cons_zero, List.set_cons_succ]
  clear qkX rkX lkX qkMX rkMX lkMX
  refine wpAnyH_take (i := 14) (v := ?_) rfl (by kernel_rfl) (by kernel_rfl) (by kernel_rfl) (fun _ _ _ h => h) (Or.inl ⟨by rfl, fun w hSw => ?_⟩) hHeld ?_
  rotate_left
  · ((try dsimp only at hSw); go_split_ands; go_simp; (try with_reducible rfl))
  try simp only [Act.put, List.getElem_toArray, List.getElem_cons_zero, List.getElem_cons_succ, List.setIfInBounds_toArray, List.set_cons_zero, List.set_cons_succ]
  refine wpAnyH_ready (rs := [15]) (by kernel_rfl) (by simp) ?_
  refine AllReadyH.cons rfl (fun K hK => ?_) AllReadyH.nil
  go_simp
  refine hK.out _ _ (⟨kX4.cell, kM4.cell, q4, fq4⟩) (fun hHeld => ?_)
  clear hK K
  refine wpAnyH_done (by kernel_rfl) ?_ _
  unfold lastQ
  go_simp
  refine NoPanic.normal ?_
  go_wp2_with fail
  go_ret
  rw [E.out, ← hu.out]
  have hBB4 := hBB.go B4 hBw
  have oY1 := oX1.out.below B4
  obtain ⟨gv', cur', -, ev, hgv', kg', hc', hset'⟩ := oY1.cell_ (k := m) (by have := h8.out.1; omega)
  injection ev with ev; injection ev with ev; subst ev
  refine ⟨rfl, ⟨hBg, _, _, kM4.far (p := ⟨gv, m, none⟩) hne _, _, _, rfl, hset' u, (oX2.out.below B4).set_ne (q := ⟨gv, m, none⟩) (dj.out gv rfl) _, dj.out⟩, hBB4.set (p := ⟨gv, m, none⟩) kg' (by decide) hgv _⟩
--@ (*impl.machine).basic
set_option maxRecDepth 100000 in
set_option maxHeartbeats 3200000 in
theorem basic_store (w : World) (B g : Nat) (s : Ste) (f : Nat) (a : Int) (b : Int) (ha : 0 ≤ a ∧ a ≤ 8) (hb : 0 ≤ b ∧ b ≤ 8) (t : Fct) (vF vA vB vE : Value) (hM : Mach w B g s f) (hs : s.valid = true) :
    Calls Try.prog 259 #[.pointer (some ⟨g, 0, none⟩), .agg #[.int .i64 3, .int .i64 a, .int .i64 b, .bool t.eq, .int .i64 t.a, .int .i64 t.b, vF, vA, vB, vE]] w fun e w' => e = .returned (.int .i64 (basicF s 3 a b).2) ∧ Mach w' B g (basicF s 3 a b).1 f ∧ Rf B w w' := by
  have HA := Lib.hid ha
  have HB : Hid (0 ≤ (b : Int) ∧ b ≤ (8 : Int)) := hb
  clear ha hb
  obtain ⟨F, e1, G, e2, hBg, kM, o1, o2, dj⟩ := hM.form
  have hgl := kM.lt
  have h8 := Lib.hid (Ste.valid_len hs)
  have HS := Lib.hid hs
  have V1 := Lib.hid (o1.readsI.2)
  obtain ⟨x, hx⟩ : ∃ x, x = tval s.values a := ⟨_, rfl⟩
  obtain ⟨y, hy⟩ : ∃ x, x = tval s.values b := ⟨_, rfl⟩
  have hxv : 0 ≤ x ∧ x ≤ 8 := by rw [hx]; exact tval_le (Ste.all_vals hs) _
  have hyv : 0 ≤ y ∧ y ≤ 8 := by rw [hy]; exact tval_le (Ste.all_vals hs) _
  replace hx := Lib.hid hx
  replace hy := Lib.hid hy
  replace o1 := Lib.hid o1
  replace o2 := Lib.hid o2
  replace dj := Lib.hid dj
  clear hM hs
  have hgne : g ≠ w.heap.size := by omega
  go_enter Try.func259, Try.ntmps259
  have k00 : Blk (w.alloc (.cells #[.int .i64 3, .int .i64 a, .int .i64 b, .bool t.eq, .int .i64 t.a, .int .i64 t.b, vF, vA, vB, vE] tC)) w.heap.size tC #[.int .i64 3, .int .i64 a, .int .i64 b, .bool t.eq, .int .i64 t.a, .int .i64 t.b, vF, vA, vB, vE] := Blk.new _ _ _
  have kM0 : Blk (w.alloc (.cells #[.int .i64 3, .int .i64 a, .int .i64 b, .bool t.eq, .int .i64 t.a, .int .i64 t.b, vF, vA, vB, vE] tC)) g tM #[.slice F s.values.length e1, .slice G s.heap.length e2, .int .i64 (f : Int)] := kM.alloc _
  go_wp2_with fail
  refine wp_region_noPanic ?_
  refine wp_region_held_drew (S := (fun w' => (∀ j, w'.cell? ⟨w.heap.size, j, none⟩ = #[.int .i64 3, .int .i64 a, .int .i64 b, .bool t.eq, .int .i64 t.a, .int .i64 t.b, vF, vA, vB, vE][j]?) ∧ (∀ j, w'.cell? ⟨g, j, none⟩ = #[.slice F s.values.length e1, .slice G s.heap.length e2, .int .i64 (f : Int)][j]?))) (by kernel_rfl) (⟨k00.cell, kM0.cell⟩) (fun hHeld => ?_)
  refine wpAnyH_take (i := 0) (v := ?_) rfl (by kernel_rfl) (by kernel_rfl) (by kernel_rfl) (fun _ _ _ h => h) (Or.inl ⟨by rfl, fun w hSw => ?_⟩) hHeld ?_
  rotate_left
  · ((try dsimp only at hSw); go_split_ands; go_simp; (try with_reducible rfl))
  try simp only [Act.put, List.getElem_toArray, List.getElem_cons_zero, List.getElem_cons_succ, List.setIfInBounds_toArray, List.set_cons_zero, List.set_cons_succ]
  refine wpAnyH_take (i := 1) (v := ?_) rfl (by kernel_rfl) (by kernel_rfl) (by kernel_rfl) (fun _ _ _ h => h) (Or.inl ⟨by rfl, fun w hSw => ?_⟩) hHeld ?_
  rotate_left
  · ((try dsimp only at hSw); go_split_ands; go_simp; (try with_reducible rfl))
  try simp only [Act.put, List.getElem_toArray, List.getElem_cons_zero, List.getElem_cons_succ, List.setIfInBounds_toArray, List.set_cons_zero, List.set_cons_succ]
  refine wpAnyH_take (i := 2) (v := ?_) rfl (by kernel_rfl) (by kernel_rfl) (by kernel_rfl) (fun _ _ _ h => h) (Or.inl ⟨by rfl, fun w hSw => ?_⟩) hHeld ?_
  rotate_left
  · ((try dsimp only at hSw); go_split_ands; go_simp; (try with_reducible rfl))
  try simp only [Act.put, List.getElem_toArray, List.getElem_cons_zero, List.getElem_cons_succ, List.setIfInBounds_toArray, List.set_cons_zero, List.set_cons_succ]
  refine wpAnyH_take (i := 3) (v := ?_) rfl (by kernel_rfl) (by kernel_rfl) (by kernel_rfl) (fun _ _ _ h => h) (Or.inl ⟨by rfl, fun w hSw => ?_⟩) hHeld ?_
  rotate_left
  · ((try dsimp only at hSw); go_split_ands; go_simp; (try with_reducible rfl))
  try simp only [Act.put, List.getElem_toArray, List.getElem_cons_zero, List.getElem_cons_succ, List.setIfInBounds_toArray, List.set_cons_zero, List.set_cons_succ]
  refine wpAnyH_take (i := 4) (v := ?_) rfl (by kernel_rfl) (by kernel_rfl) (by kernel_rfl) (fun _ _ _ h => h) (Or.inl ⟨by rfl, fun w hSw => ?_⟩) hHeld ?_
  rotate_left
  · ((try dsimp only at hSw); go_split_ands; go_simp; (try with_reducible rfl))
  try simp only [Act.put, List.getElem_toArray, List.getElem_cons_zero, List.getElem_cons_succ, List.setIfInBounds_toArray, List.set_cons_zero, List.set_cons_succ]
  refine wpAnyH_take (i := 5) (v := ?_) rfl (by kernel_rfl) (by kernel_rfl) (by kernel_rfl) (fun _ _ _ h => h) (Or.inl ⟨by rfl, fun w hSw => ?_⟩) hHeld ?_
  rotate_left
  · ((try dsimp only at hSw); go_split_ands; go_simp; (try with_reducible rfl))
  try simp only [Act.put, List.getElem_toArray, List.getElem_cons_zero, List.getElem_cons_succ, List.setIfInBounds_toArray, List.set_cons_zero, List.set_cons_succ]
  refine wpAnyH_take (i := 6) (v := ?_) rfl (by kernel_rfl) (by kernel_rfl) (by kernel_rfl) (fun _ _ _ h => h) (Or.inl ⟨by rfl, fun w hSw => ?_⟩) hHeld ?_
  rotate_left
  · ((try dsimp only at hSw); go_split_ands; go_simp; (try with_reducible rfl))
  try simp only [Act.put, List.getElem_toArray, List.getElem_cons_zero, List.getElem_cons_succ, List.setIfInBounds_toArray, List.set_cons_zero, List.set_cons_succ]
  refine wpAnyH_take (i := 8) (v := ?_) rfl (by kernel_rfl) (by kernel_rfl) (by kernel_rfl) (fun _ _ _ h => h) (Or.inl ⟨by rfl, fun w hSw => ?_⟩) hHeld ?_
  rotate_left
  · ((try dsimp only at hSw); go_split_ands; go_simp; (try with_reducible rfl))
  try simp only [Act.put, List.getElem_toArray, List.getElem_cons_zero, List.getElem_cons_succ, List.setIfInBounds_toArray, List.set_cons_zero, List.set_cons_succ]
  refine wpAnyH_take (i := 9) (v := ?_) rfl (by kernel_rfl) (by kernel_rfl) (by kernel_rfl) (fun _ _ _ h => h) (Or.inl ⟨by rfl, fun w hSw => ?_⟩) hHeld ?_
  rotate_left
  · ((try dsimp only at hSw); go_split_ands; go_simp; (try with_reducible rfl))
  try simp only [Act.put, List.getElem_toArray, List.getElem_cons_zero, List.getElem_cons_succ, List.setIfInBounds_toArray, List.set_cons_zero, List.set_cons_succ]
  refine wpAnyH_take (i := 10) (v := ?_) rfl (by kernel_rfl) (by kernel_rfl) (by kernel_rfl) (fun _ _ _ h => h) (Or.inl ⟨by rfl, fun w hSw => ?_⟩) hHeld ?_
  rotate_left
  · ((try dsimp only at hSw); go_split_ands; go_simp; (try with_reducible rfl))
  try simp only [Act.put, List.getElem_toArray, List.getElem_cons_zero, List.getElem_cons_succ, List.setIfInBounds_toArray, List.set_cons_zero, List.set_cons_succ]
  refine wpAnyH_take (i := 11) (v := ?_) rfl (by kernel_rfl) (by kernel_rfl) (by kernel_rfl) (fun _ _ _ h => h) (Or.inl ⟨by rfl, fun w hSw => ?_⟩) hHeld ?_
  rotate_left
  · ((try dsimp only at hSw); go_split_ands; go_simp; (try with_reducible rfl))
  try simp only [Act.put, List.getElem_toArray, List.getElem_cons_zero, List.getElem_cons_succ, List.setIfInBounds_toArray, List.set_cons_zero, List.set_cons_succ]
  refine wpAnyH_take (i := 12) (v := ?_) rfl (by kernel_rfl) (by kernel_rfl) (by kernel_rfl) (fun _ _ _ h => h) (Or.inl ⟨by rfl, fun w hSw => ?_⟩) hHeld ?_
  rotate_left
  · ((try dsimp only at hSw); go_split_ands; go_simp; (try with_reducible rfl))
  try simp only [Act.put, List.getElem_toArray, List.getElem_cons_zero, List.getElem_cons_succ, List.setIfInBounds_toArray, List.set_cons_zero, List.set_cons_succ]
  refine wpAnyH_take (i := 13) (v := ?_) rfl (by kernel_rfl) (by kernel_rfl) (by kernel_rfl) (fun _ _ _ h => h) (Or.inl ⟨by rfl, fun w hSw => ?_⟩) hHeld ?_
  rotate_left
  · ((try dsimp only at hSw); go_split_ands; go_simp; (try with_reducible rfl))
  try simp only [Act.put, List.getElem_toArray, List.getElem_cons_zero, List.getElem_cons_succ, List.setIfInBounds_toArray, List.set_cons_zero, List.set_cons_succ]
  refine wpAnyH_take (i := 14) (v := ?_) rfl (by kernel_rfl) (by kernel_rfl) (by kernel_rfl) (fun _ _ _ h => h) (Or.inl ⟨by rfl, fun w hSw => ?_⟩) hHeld ?_
  rotate_left
  · ((try dsimp only at hSw); go_split_ands; go_simp; (try with_reducible rfl))
  try simp only [Act.put, List.getElem_toArray, List.getElem_cons_zero, List.getElem_cons_succ, List.setIfInBounds_toArray, List.set_cons_zero, List.set_cons_succ]
  refine wpAnyH_ready (rs := [7]) (by kernel_rfl) (by simp) ?_
  refine AllReadyH.cons rfl (fun K hK => ?_) AllReadyH.nil
  try simp only [List.getElem_toArray, List.getElem_cons_zero, List.getElem_cons_succ]
  (go_simp; refine (c_impl_termValue F e1 s.values a _ (V1.out.below bel) HA.out.1 (by rw [h8.out.1]; exact HA.out.2)).mono ?_; rintro e w3 ⟨rfl, rfl⟩; rw [← hx.out])
  refine hK.out _ _ (⟨k00.cell, kM0.cell⟩) (fun hHeldN => ?_)
  clear hHeld hK K
  have hHeld := hHeldN
  clear hHeldN
  try simp only [Act.put, List.getElem_toArray, List.getElem_cons_zero, List.getElem_cons_succ, List.setIfInBounds_toArray, List.set_cons_zero, List.set_cons_succ]
  refine wpAnyH_ready (rs := [15]) (by kernel_rfl) (by simp) ?_
  refine AllReadyH.cons rfl (fun K hK => ?_) AllReadyH.nil
  try simp only [List.getElem_toArray, List.getElem_cons_zero, List.getElem_cons_succ]
  (go_simp; refine (c_impl_termValue F e1 s.values b _ (V1.out.below bel) HB.out.1 (by rw [h8.out.1]; exact HB.out.2)).mono ?_; rintro e w3 ⟨rfl, rfl⟩; rw [← hy.out])
  refine hK.out _ _ (⟨k00.cell, kM0.cell⟩) (fun hHeldN => ?_)
  clear hHeld hK K
  have hHeld := hHeldN
  clear hHeldN
  try simp only [Act.put, List.getElem_toArray, List.getElem_cons_zero, List.getElem_cons_succ, List.setIfInBounds_toArray, List.set_cons_zero, List.set_cons_succ]
  refine wpAnyH_take (i := 16) (v := ?_) rfl (by kernel_rfl) (by kernel_rfl) (by kernel_rfl) (fun _ _ _ h => h) (Or.inl ⟨by rfl, fun w hSw => ?_⟩) hHeld ?_
  rotate_left
  · ((try dsimp only at hSw); go_split_ands; go_simp; (try with_reducible rfl))
  try simp only [Act.put, List.getElem_toArray, List.getElem_cons_zero, List.getElem_cons_succ, List.setIfInBounds_toArray, List.set_cons_zero, List.set_cons_succ]
  refine wpAnyH_take (i := 17) (v := ?_) rfl (by kernel_rfl) (by kernel_rfl) (by kernel_rfl) (fun _ _ _ h => h) (Or.inl ⟨by rfl, fun w hSw => ?_⟩) hHeld ?_
  rotate_left
  · ((try dsimp only at hSw); go_split_ands; go_simp; (try with_reducible rfl))
  try simp only [Act.put, List.getElem_toArray, List.getElem_cons_zero, List.getElem_cons_succ, List.setIfInBounds_toArray, List.set_cons_zero, List.set_cons_succ]
  refine wpAnyH_done (by kernel_rfl) ?_ _
  refine NoPanic.normal ?_
  obtain ⟨X, hX⟩ : ∃ X, X = (w.alloc (.cells #[.int .i64 3, .int .i64 a, .int .i64 b, .bool t.eq, .int .i64 t.a, .int .i64 t.b, vF, vA, vB, vE] tC)).drew := ⟨_, rfl⟩
  have hBX : Below w.heap.size w X := by rw [hX]; exact bel
  have kX : Blk X w.heap.size tC #[.int .i64 3, .int .i64 a, .int .i64 b, .bool t.eq, .int .i64 t.a, .int .i64 t.b, vF, vA, vB, vE] := by rw [hX]; exact k00.drew
  have kMX : Blk X g tM #[.slice F s.values.length e1, .slice G s.heap.length e2, .int .i64 (f : Int)] := by rw [hX]; exact kM0.drew
  have oX1 := Lib.hid (o1.out.below hBX)
  have oX2 := Lib.hid (o2.out.below hBX)
  have hBw : B ≤ w.heap.size := by omega
  have hBB : Rf B w X := Rf.of hBX hBw
  rw [← hX]
  clear hX k00 kM0 kM V1 hHeld o1 o2
  (replace qkX := kX.cell; replace rkX := kX.frozen; replace lkX := kX.lt; replace qkMX := kMX.cell; replace rkMX := kMX.frozen; replace lkMX := kMX.lt)
  have hSV : Hid (StateV X B X.heap.size (.agg #[.slice F s.values.length e1, .slice G s.heap.length e2]) s) := ⟨_, _, _, _, rfl, oX1.out.readsI.2, oX2.out.readsI.2⟩
  go_wp2_with fail
  refine (c_impl_allocated _ s x _ hSV.out h8.out.2).mono ?_
  rintro e w2 ⟨rfl, hB2⟩
  replace hBB := hBB.go hB2 hBw
  replace kX := kX.next hB2
  replace kMX := kMX.next hB2
  replace oX1 := Lib.hid (oX1.out.below hB2)
  replace oX2 := Lib.hid (oX2.out.below hB2)
  (replace qkX := kX.cell; replace rkX := kX.frozen; replace lkX := kX.lt; replace qkMX := kMX.cell; replace rkMX := kMX.frozen; replace lkMX := kMX.lt)
  clear hSV
  cases ha : allocB s.heap x
  · have E : Hid (basicF s 3 a b = (s, 1)) := by
      show _ = _
      unfold basicF
      rw [if_neg (by decide), if_neg (by decide), if_pos rfl, ← hx.out, ha]; rfl
    clear ha
    go_wp2_with fail
    go_ret
    rw [E.out]
    exact ⟨rfl, ⟨hBg, _, _, kMX, _, _, rfl, oX1.out, oX2.out, dj.out⟩, hBB⟩
  have hxa := allocB_addr ha
  obtain ⟨m, rfl⟩ : ∃ m : Nat, x = (m : Int) + 1 := ⟨(x - 1).toNat, by omega⟩
  have E : Hid (basicF s 3 a b = (⟨s.values, s.heap.set m y⟩, 0)) := by
    show _ = _
    unfold basicF
    rw [if_neg (by decide), if_neg (by decide), if_pos rfl, ← hx.out, ← hy.out, ha, if_pos rfl, show ((m : Int) + 1 - 1).toNat = m by omega]
  clear ha
  have hvl := h8.out.2
  obtain ⟨gv, cur, -, rfl, hgv, kg, hc, hset⟩ := oX2.out.cell_ (k := m) (by omega)
  have q := kg.cell m
  rw [hc] at q
  obtain ⟨z, hz⟩ : ∃ z, z = s.heap[m]'(by omega) := ⟨_, rfl⟩
  rw [← hz] at q
  have fq := kg.frozen m
  have hgvl := kg.lt
  have hne : g ≠ gv := kMX.ne_ kg (by decide)
  have HSET := Lib.hid (hset y)
  have hml : (m : Int) < (s.heap.length : Int) := by omega
  clear hset hc hz hvl
  go_wp2_with fail
  go_ret
  rw [E.out]
  refine ⟨rfl, ⟨hBg, _, _, kMX.far (p := ⟨gv, m, none⟩) hne _, _, _, rfl, oX1.out.set_ne (q := ⟨gv, m, none⟩) (fun e => dj.out gv e rfl) _, ?_, dj.out⟩, hBB.set (p := ⟨gv, m, none⟩) kg (by decide) hgv _⟩
  exact HSET.out
--@ (*impl.machine).basic
set_option maxRecDepth 100000 in
set_option maxHeartbeats 3200000 in
theorem basic_free (w : World) (B g : Nat) (s : Ste) (f : Nat) (a : Int) (ha : 0 ≤ a ∧ a ≤ 8) (t : Fct) (vF vA vB vE : Value) (hM : Mach w B g s f) (hs : s.valid = true) :
    Calls Try.prog 259 #[.pointer (some ⟨g, 0, none⟩), .agg #[.int .i64 5, .int .i64 a, .int .i64 0, .bool t.eq, .int .i64 t.a, .int .i64 t.b, vF, vA, vB, vE]] w fun e w' => e = .returned (.int .i64 (basicF s 5 a 0).2) ∧ Mach w' B g (basicF s 5 a 0).1 f ∧ Rf B w w' := by
  have HA := Lib.hid ha
  have HB : Hid (0 ≤ (0 : Int) ∧ (0 : Int) ≤ (8 : Int)) := ⟨by omega, by omega⟩
  clear ha
  obtain ⟨F, e1, G, e2, hBg, kM, o1, o2, dj⟩ := hM.form
  have hgl := kM.lt
  have h8 := Lib.hid (Ste.valid_len hs)
  have HS := Lib.hid hs
  have V1 := Lib.hid (o1.readsI.2)
  obtain ⟨x, hx⟩ : ∃ x, x = tval s.values a := ⟨_, rfl⟩
  obtain ⟨y, hy⟩ : ∃ x, x = tval s.values 0 := ⟨_, rfl⟩
  have hxv : 0 ≤ x ∧ x ≤ 8 := by rw [hx]; exact tval_le (Ste.all_vals hs) _
  have hyv : 0 ≤ y ∧ y ≤ 8 := by rw [hy]; exact tval_le (Ste.all_vals hs) _
  replace hx := Lib.hid hx
  replace hy := Lib.hid hy
  replace o1 := Lib.hid o1
  replace o2 := Lib.hid o2
  replace dj := Lib.hid dj
  clear hM hs
  have hgne : g ≠ w.heap.size := by omega
  go_enter Try.func259, Try.ntmps259
  have k00 : Blk (w.alloc (.cells #[.int .i64 5, .int .i64 a, .int .i64 0, .bool t.eq, .int .i64 t.a, .int .i64 t.b, vF, vA, vB, vE] tC)) w.heap.size tC #[.int .i64 5, .int .i64 a, .int .i64 0, .bool t.eq, .int .i64 t.a, .int .i64 t.b, vF, vA, vB, vE] := Blk.new _ _ _
  have kM0 : Blk (w.alloc (.cells #[.int .i64 5, .int .i64 a, .int .i64 0, .bool t.eq, .int .i64 t.a, .int .i64 t.b, vF, vA, vB, vE] tC)) g tM #[.slice F s.values.length e1, .slice G s.heap.length e2, .int .i64 (f : Int)] := kM.alloc _
  go_wp2_with fail
  refine wp_region_noPanic ?_
  refine wp_region_held_drew (S := (fun w' => (∀ j, w'.cell? ⟨w.heap.size, j, none⟩ = #[.int .i64 5, .int .i64 a, .int .i64 0, .bool t.eq, .int .i64 t.a, .int .i64 t.b, vF, vA, vB, vE][j]?) ∧ (∀ j, w'.cell? ⟨g, j, none⟩ = #[.slice F s.values.length e1, .slice G s.heap.length e2, .int .i64 (f : Int)][j]?))) (by kernel_rfl) (⟨k00.cell, kM0.cell⟩) (fun hHeld => ?_)
  refine wpAnyH_take (i := 0) (v := ?_) rfl (by kernel_rfl) (by kernel_rfl) (by kernel_rfl) (fun _ _ _ h => h) (Or.inl ⟨by rfl, fun w hSw => ?_⟩) hHeld ?_
  rotate_left
  · ((try dsimp only at hSw); go_split_ands; go_simp; (try with_reducible rfl))
  try simp only [Act.put, List.getElem_toArray, List.getElem_cons_zero, List.getElem_cons_succ, List.setIfInBounds_toArray, List.set_cons_zero, List.set_cons_succ]
  refine wpAnyH_take (i := 1) (v := ?_) rfl (by kernel_rfl) (by kernel_rfl) (by kernel_rfl) (fun _ _ _ h => h) (Or.inl ⟨by rfl, fun w hSw => ?_⟩) hHeld ?_
  rotate_left
  · ((try dsimp only at hSw); go_split_ands; go_simp; (try with_reducible rfl))
  try simp only [Act.put, List.getElem_toArray, List.getElem_cons_zero, List.getElem_cons_succ, List.setIfInBounds_toArray, List.set_cons_zero, List.set_cons_succ]
  refine wpAnyH_take (i := 2) (v := ?_) rfl (by kernel_rfl) (by kernel_rfl) (by kernel_rfl) (fun _ _ _ h => h) (Or.inl ⟨by rfl, fun w hSw => ?_⟩) hHeld ?_
  rotate_left
  · ((try dsimp only at hSw); go_split_ands; go_simp; (try with_reducible rfl))
  try simp only [Act.put, List.getElem_toArray, List.getElem_cons_zero, List.getElem_cons_succ, List.setIfInBounds_toArray, List.set_cons_zero, List.set_cons_succ]
  refine wpAnyH_take (i := 3) (v := ?_) rfl (by kernel_rfl) (by kernel_rfl) (by kernel_rfl) (fun _ _ _ h => h) (Or.inl ⟨by rfl, fun w hSw => ?_⟩) hHeld ?_
  rotate_left
  · ((try dsimp only at hSw); go_split_ands; go_simp; (try with_reducible rfl))
  try simp only [Act.put, List.getElem_toArray, List.getElem_cons_zero, List.getElem_cons_succ, List.setIfInBounds_toArray, List.set_cons_zero, List.set_cons_succ]
  refine wpAnyH_take (i := 4) (v := ?_) rfl (by kernel_rfl) (by kernel_rfl) (by kernel_rfl) (fun _ _ _ h => h) (Or.inl ⟨by rfl, fun w hSw => ?_⟩) hHeld ?_
  rotate_left
  · ((try dsimp only at hSw); go_split_ands; go_simp; (try with_reducible rfl))
  try simp only [Act.put, List.getElem_toArray, List.getElem_cons_zero, List.getElem_cons_succ, List.setIfInBounds_toArray, List.set_cons_zero, List.set_cons_succ]
  refine wpAnyH_take (i := 5) (v := ?_) rfl (by kernel_rfl) (by kernel_rfl) (by kernel_rfl) (fun _ _ _ h => h) (Or.inl ⟨by rfl, fun w hSw => ?_⟩) hHeld ?_
  rotate_left
  · ((try dsimp only at hSw); go_split_ands; go_simp; (try with_reducible rfl))
  try simp only [Act.put, List.getElem_toArray, List.getElem_cons_zero, List.getElem_cons_succ, List.setIfInBounds_toArray, List.set_cons_zero, List.set_cons_succ]
  refine wpAnyH_take (i := 6) (v := ?_) rfl (by kernel_rfl) (by kernel_rfl) (by kernel_rfl) (fun _ _ _ h => h) (Or.inl ⟨by rfl, fun w hSw => ?_⟩) hHeld ?_
  rotate_left
  · ((try dsimp only at hSw); go_split_ands; go_simp; (try with_reducible rfl))
  try simp only [Act.put, List.getElem_toArray, List.getElem_cons_zero, List.getElem_cons_succ, List.setIfInBounds_toArray, List.set_cons_zero, List.set_cons_succ]
  refine wpAnyH_take (i := 8) (v := ?_) rfl (by kernel_rfl) (by kernel_rfl) (by kernel_rfl) (fun _ _ _ h => h) (Or.inl ⟨by rfl, fun w hSw => ?_⟩) hHeld ?_
  rotate_left
  · ((try dsimp only at hSw); go_split_ands; go_simp; (try with_reducible rfl))
  try simp only [Act.put, List.getElem_toArray, List.getElem_cons_zero, List.getElem_cons_succ, List.setIfInBounds_toArray, List.set_cons_zero, List.set_cons_succ]
  refine wpAnyH_take (i := 9) (v := ?_) rfl (by kernel_rfl) (by kernel_rfl) (by kernel_rfl) (fun _ _ _ h => h) (Or.inl ⟨by rfl, fun w hSw => ?_⟩) hHeld ?_
  rotate_left
  · ((try dsimp only at hSw); go_split_ands; go_simp; (try with_reducible rfl))
  try simp only [Act.put, List.getElem_toArray, List.getElem_cons_zero, List.getElem_cons_succ, List.setIfInBounds_toArray, List.set_cons_zero, List.set_cons_succ]
  refine wpAnyH_take (i := 10) (v := ?_) rfl (by kernel_rfl) (by kernel_rfl) (by kernel_rfl) (fun _ _ _ h => h) (Or.inl ⟨by rfl, fun w hSw => ?_⟩) hHeld ?_
  rotate_left
  · ((try dsimp only at hSw); go_split_ands; go_simp; (try with_reducible rfl))
  try simp only [Act.put, List.getElem_toArray, List.getElem_cons_zero, List.getElem_cons_succ, List.setIfInBounds_toArray, List.set_cons_zero, List.set_cons_succ]
  refine wpAnyH_take (i := 11) (v := ?_) rfl (by kernel_rfl) (by kernel_rfl) (by kernel_rfl) (fun _ _ _ h => h) (Or.inl ⟨by rfl, fun w hSw => ?_⟩) hHeld ?_
  rotate_left
  · ((try dsimp only at hSw); go_split_ands; go_simp; (try with_reducible rfl))
  try simp only [Act.put, List.getElem_toArray, List.getElem_cons_zero, List.getElem_cons_succ, List.setIfInBounds_toArray, List.set_cons_zero, List.set_cons_succ]
  refine wpAnyH_take (i := 12) (v := ?_) rfl (by kernel_rfl) (by kernel_rfl) (by kernel_rfl) (fun _ _ _ h => h) (Or.inl ⟨by rfl, fun w hSw => ?_⟩) hHeld ?_
  rotate_left
  · ((try dsimp only at hSw); go_split_ands; go_simp; (try with_reducible rfl))
  try simp only [Act.put, List.getElem_toArray, List.getElem_cons_zero, List.getElem_cons_succ, List.setIfInBounds_toArray, List.set_cons_zero, List.set_cons_succ]
  refine wpAnyH_take (i := 13) (v := ?_) rfl (by kernel_rfl) (by kernel_rfl) (by kernel_rfl) (fun _ _ _ h => h) (Or.inl ⟨by rfl, fun w hSw => ?_⟩) hHeld ?_
  rotate_left
  · ((try dsimp only at hSw); go_split_ands; go_simp; (try with_reducible rfl))
  try simp only [Act.put, List.getElem_toArray, List.getElem_cons_zero, List.getElem_cons_succ, List.setIfInBounds_toArray, List.set_cons_zero, List.set_cons_succ]
  refine wpAnyH_take (i := 14) (v := ?_) rfl (by kernel_rfl) (by kernel_rfl) (by kernel_rfl) (fun _ _ _ h => h) (Or.inl ⟨by rfl, fun w hSw => ?_⟩) hHeld ?_
  rotate_left
  · ((try dsimp only at hSw); go_split_ands; go_simp; (try with_reducible rfl))
  try simp only [Act.put, List.getElem_toArray, List.getElem_cons_zero, List.getElem_cons_succ, List.setIfInBounds_toArray, List.set_cons_zero, List.set_cons_succ]
  refine wpAnyH_ready (rs := [7]) (by kernel_rfl) (by simp) ?_
  refine AllReadyH.cons rfl (fun K hK => ?_) AllReadyH.nil
  try simp only [List.getElem_toArray, List.getElem_cons_zero, List.getElem_cons_succ]
  (go_simp; refine (c_impl_termValue F e1 s.values a _ (V1.out.below bel) HA.out.1 (by rw [h8.out.1]; exact HA.out.2)).mono ?_; rintro e w3 ⟨rfl, rfl⟩; rw [← hx.out])
  refine hK.out _ _ (⟨k00.cell, kM0.cell⟩) (fun hHeldN => ?_)
  clear hHeld hK K
  have hHeld := hHeldN
  clear hHeldN
  try simp only [Act.put, List.getElem_toArray, List.getElem_cons_zero, List.getElem_cons_succ, List.setIfInBounds_toArray, List.set_cons_zero, List.set_cons_succ]
  refine wpAnyH_ready (rs := [15]) (by kernel_rfl) (by simp) ?_
  refine AllReadyH.cons rfl (fun K hK => ?_) AllReadyH.nil
  try simp only [List.getElem_toArray, List.getElem_cons_zero, List.getElem_cons_succ]
  (go_simp; refine (c_impl_termValue F e1 s.values 0 _ (V1.out.below bel) HB.out.1 (by rw [h8.out.1]; exact HB.out.2)).mono ?_; rintro e w3 ⟨rfl, rfl⟩; rw [← hy.out])
  refine hK.out _ _ (⟨k00.cell, kM0.cell⟩) (fun hHeldN => ?_)
  clear hHeld hK K
  have hHeld := hHeldN
  clear hHeldN
  try simp only [Act.put, List.getElem_toArray, List.getElem_cons_zero, List.getElem_cons_succ, List.setIfInBounds_toArray, List.set_cons_zero, List.set_cons_succ]
  refine wpAnyH_take (i := 16) (v := ?_) rfl (by kernel_rfl) (by kernel_rfl) (by kernel_rfl) (fun _ _ _ h => h) (Or.inl ⟨by rfl, fun w hSw => ?_⟩) hHeld ?_
  rotate_left
  · ((try dsimp only at hSw); go_split_ands; go_simp; (try with_reducible rfl))
  try simp only [Act.put, List.getElem_toArray, List.getElem_cons_zero, List.getElem_cons_succ, List.setIfInBounds_toArray, List.set_cons_zero, List.set_cons_succ]
  refine wpAnyH_take (i := 17) (v := ?_) rfl (by kernel_rfl) (by kernel_rfl) (by kernel_rfl) (fun _ _ _ h => h) (Or.inl ⟨by rfl, fun w hSw => ?_⟩) hHeld ?_
  rotate_left
  · ((try dsimp only at hSw); go_split_ands; go_simp; (try with_reducible rfl))
  try simp only [Act.put, List.getElem_toArray, List.getElem_cons_zero, List.getElem_cons_succ, List.setIfInBounds_toArray, List.set_cons_zero, List.set_cons_succ]
  refine wpAnyH_done (by kernel_rfl) ?_ _
  refine NoPanic.normal ?_
  obtain ⟨X, hX⟩ : ∃ X, X = (w.alloc (.cells #[.int .i64 5, .int .i64 a, .int .i64 0, .bool t.eq, .int .i64 t.a, .int .i64 t.b, vF, vA, vB, vE] tC)).drew := ⟨_, rfl⟩
  have hBX : Below w.heap.size w X := by rw [hX]; exact bel
  have kX : Blk X w.heap.size tC #[.int .i64 5, .int .i64 a, .int .i64 0, .bool t.eq, .int .i64 t.a, .int .i64 t.b, vF, vA, vB, vE] := by rw [hX]; exact k00.drew
  have kMX : Blk X g tM #[.slice F s.values.length e1, .slice G s.heap.length e2, .int .i64 (f : Int)] := by rw [hX]; exact kM0.drew
  have oX1 := Lib.hid (o1.out.below hBX)
  have oX2 := Lib.hid (o2.out.below hBX)
  have hBw : B ≤ w.heap.size := by omega
  have hBB : Rf B w X := Rf.of hBX hBw
  rw [← hX]
  clear hX k00 kM0 kM V1 hHeld o1 o2
  (replace qkX := kX.cell; replace rkX := kX.frozen; replace lkX := kX.lt; replace qkMX := kMX.cell; replace rkMX := kMX.frozen; replace lkMX := kMX.lt)
  have hSV : Hid (StateV X B X.heap.size (.agg #[.slice F s.values.length e1, .slice G s.heap.length e2]) s) := ⟨_, _, _, _, rfl, oX1.out.readsI.2, oX2.out.readsI.2⟩
  go_wp2_with fail
  refine (c_impl_allocated _ s x _ hSV.out h8.out.2).mono ?_
  rintro e w2 ⟨rfl, hB2⟩
  replace hBB := hBB.go hB2 hBw
  replace kX := kX.next hB2
  replace kMX := kMX.next hB2
  replace oX1 := Lib.hid (oX1.out.below hB2)
  replace oX2 := Lib.hid (oX2.out.below hB2)
  (replace qkX := kX.cell; replace rkX := kX.frozen; replace lkX := kX.lt; replace qkMX := kMX.cell; replace rkMX := kMX.frozen; replace lkMX := kMX.lt)
  clear hSV
  cases ha : allocB s.heap x
  · have E : Hid (basicF s 5 a 0 = (s, 1)) := by
      show _ = _
      unfold basicF
      rw [if_neg (by decide), if_neg (by decide), if_neg (by decide), if_neg (by decide), ← hx.out, ha]; rfl
    clear ha
    go_wp2_with fail
    go_ret
    rw [E.out]
    exact ⟨rfl, ⟨hBg, _, _, kMX, _, _, rfl, oX1.out, oX2.out, dj.out⟩, hBB⟩
  have hxa := allocB_addr ha
  obtain ⟨m, rfl⟩ : ∃ m : Nat, x = (m : Int) + 1 := ⟨(x - 1).toNat, by omega⟩
  have E : Hid (basicF s 5 a 0 = (⟨s.values, s.heap.set m (-1)⟩, 0)) := by
    show _ = _
    unfold basicF
    rw [if_neg (by decide), if_neg (by decide), if_neg (by decide), if_neg (by decide), ← hx.out, ha, if_pos rfl, show ((m : Int) + 1 - 1).toNat = m by omega]
  clear ha
  have hvl := h8.out.2
  obtain ⟨gv, cur, -, rfl, hgv, kg, hc, hset⟩ := oX2.out.cell_ (k := m) (by omega)
  have q := kg.cell m
  rw [hc] at q
  obtain ⟨z, hz⟩ : ∃ z, z = s.heap[m]'(by omega) := ⟨_, rfl⟩
  rw [← hz] at q
  have fq := kg.frozen m
  have hgvl := kg.lt
  have hne : g ≠ gv := kMX.ne_ kg (by decide)
  have HSET := Lib.hid (hset (-1))
  have hml : (m : Int) < (s.heap.length : Int) := by omega
  clear hset hc hz hvl
  go_wp2_with fail
  go_ret
  rw [E.out]
  refine ⟨rfl, ⟨hBg, _, _, kMX.far (p := ⟨gv, m, none⟩) hne _, _, _, rfl, oX1.out.set_ne (q := ⟨gv, m, none⟩) (fun e => dj.out gv e rfl) _, ?_, dj.out⟩, hBB.set (p := ⟨gv, m, none⟩) kg (by decide) hgv _⟩
  exact HSET.out
--@ (*impl.machine).basic
set_option maxRecDepth 100000 in
set_option maxHeartbeats 3200000 in
theorem basic_new (w : World) (B g : Nat) (s : Ste) (f : Nat) (m : Nat) (hm : m < 4) (t : Fct) (vF vA vB vE : Value) (hM : Mach w B g s f) (hs : s.valid = true) :
    Calls Try.prog 259 #[.pointer (some ⟨g, 0, none⟩), .agg #[.int .i64 4, .int .i64 ((m : Int) + 1), .int .i64 0, .bool t.eq, .int .i64 t.a, .int .i64 t.b, vF, vA, vB, vE]] w fun e w' => e = .returned (.int .i64 (basicF s 4 ((m : Int) + 1) 0).2) ∧ Mach w' B g (basicF s 4 ((m : Int) + 1) 0).1 f ∧ Rf B w w' := by
  have hm4 : (m : Int) < 4 := by omega
  have hm8 : (m : Int) < 8 := by omega
  obtain ⟨F, e1, G, e2, hBg, kM, o1, o2, dj⟩ := hM.form
  have hgl := kM.lt
  have h8 := Lib.hid (Ste.valid_len hs)
  have HS := Lib.hid hs
  have V1 := Lib.hid (o1.readsI.2)
  obtain ⟨x, hx⟩ : ∃ x, x = tval s.values ((m : Int) + 1) := ⟨_, rfl⟩
  obtain ⟨y, hy⟩ : ∃ x, x = tval s.values 0 := ⟨_, rfl⟩
  have hxv : 0 ≤ x ∧ x ≤ 8 := by rw [hx]; exact tval_le (Ste.all_vals hs) _
  have hyv : 0 ≤ y ∧ y ≤ 8 := by rw [hy]; exact tval_le (Ste.all_vals hs) _
  replace hx := Lib.hid hx
  replace hy := Lib.hid hy
  replace o1 := Lib.hid o1
  replace o2 := Lib.hid o2
  replace dj := Lib.hid dj
  clear hM hs
  have hgne : g ≠ w.heap.size := by omega
  go_enter Try.func259, Try.ntmps259
  have k00 : Blk (w.alloc (.cells #[.int .i64 4, .int .i64 ((m : Int) + 1), .int .i64 0, .bool t.eq, .int .i64 t.a, .int .i64 t.b, vF, vA, vB, vE] tC)) w.heap.size tC #[.int .i64 4, .int .i64 ((m : Int) + 1), .int .i64 0, .bool t.eq, .int .i64 t.a, .int .i64 t.b, vF, vA, vB, vE] := Blk.new _ _ _
  have kM0 : Blk (w.alloc (.cells #[.int .i64 4, .int .i64 ((m : Int) + 1), .int .i64 0, .bool t.eq, .int .i64 t.a, .int .i64 t.b, vF, vA, vB, vE] tC)) g tM #[.slice F s.values.length e1, .slice G s.heap.length e2, .int .i64 (f : Int)] := kM.alloc _
  go_wp2_with fail
  refine wp_region_noPanic ?_
  refine wp_region_held_drew (S := (fun w' => (∀ j, w'.cell? ⟨w.heap.size, j, none⟩ = #[.int .i64 4, .int .i64 ((m : Int) + 1), .int .i64 0, .bool t.eq, .int .i64 t.a, .int .i64 t.b, vF, vA, vB, vE][j]?) ∧ (∀ j, w'.cell? ⟨g, j, none⟩ = #[.slice F s.values.length e1, .slice G s.heap.length e2, .int .i64 (f : Int)][j]?))) (by kernel_rfl) (⟨k00.cell, kM0.cell⟩) (fun hHeld => ?_)
  refine wpAnyH_take (i := 0) (v := ?_) rfl (by kernel_rfl) (by kernel_rfl) (by kernel_rfl) (fun _ _ _ h => h) (Or.inl ⟨by rfl, fun w hSw => ?_⟩) hHeld ?_
  rotate_left
  · ((try dsimp only at hSw); go_split_ands; go_simp; (try with_reducible rfl))
  try simp only [Act.put, List.getElem_toArray, List.getElem_cons_zero, List.getElem_cons_succ, List.setIfInBounds_toArray, List.set_cons_zero, List.set_cons_succ]
  refine wpAnyH_take (i := 1) (v := ?_) rfl (by kernel_rfl) (by kernel_rfl) (by kernel_rfl) (fun _ _ _ h => h) (Or.inl ⟨by rfl, fun w hSw => ?_⟩) hHeld ?_
  rotate_left
  · ((try dsimp only at hSw); go_split_ands; go_simp; (try with_reducible rfl))
  try simp only [Act.put, List.getElem_toArray, List.getElem_cons_zero, List.getElem_cons_succ, List.setIfInBounds_toArray, List.set_cons_zero, List.set_cons_succ]
  refine wpAnyH_take (i := 2) (v := ?_) rfl (by kernel_rfl) (by kernel_rfl) (by kernel_rfl) (fun _ _ _ h => h) (Or.inl ⟨by rfl, fun w hSw => ?_⟩) hHeld ?_
  rotate_left
  · ((try dsimp only at hSw); go_split_ands; go_simp; (try with_reducible rfl))
  try simp only [Act.put, List.getElem_toArray, List.getElem_cons_zero, List.getElem_cons_succ, List.setIfInBounds_toArray, List.set_cons_zero, List.set_cons_succ]
  refine wpAnyH_take (i := 3) (v := ?_) rfl (by kernel_rfl) (by kernel_rfl) (by kernel_rfl) (fun _ _ _ h => h) (Or.inl ⟨by rfl, fun w hSw => ?_⟩) hHeld ?_
  rotate_left
  · ((try dsimp only at hSw); go_split_ands; go_simp; (try with_reducible rfl))
  try simp only [Act.put, List.getElem_toArray, List.getElem_cons_zero, List.getElem_cons_succ, List.setIfInBounds_toArray, List.set_cons_zero, List.set_cons_succ]
  refine wpAnyH_take (i := 4) (v := ?_) rfl (by kernel_rfl) (by kernel_rfl) (by kernel_rfl) (fun _ _ _ h => h) (Or.inl ⟨by rfl, fun w hSw => ?_⟩) hHeld ?_
  rotate_left
  · ((try dsimp only at hSw); go_split_ands; go_simp; (try with_reducible rfl))
  try simp only [Act.put, List.getElem_toArray, List.getElem_cons_zero, List.getElem_cons_succ, List.setIfInBounds_toArray, List.set_cons_zero, List.set_cons_succ]
  refine wpAnyH_take (i := 5) (v := ?_) rfl (by kernel_rfl) (by kernel_rfl) (by kernel_rfl) (fun _ _ _ h => h) (Or.inl ⟨by rfl, fun w hSw => ?_⟩) hHeld ?_
  rotate_left
  · ((try dsimp only at hSw); go_split_ands; go_simp; (try with_reducible rfl))
  try simp only [Act.put, List.getElem_toArray, List.getElem_cons_zero, List.getElem_cons_succ, List.setIfInBounds_toArray, List.set_cons_zero, List.set_cons_succ]
  refine wpAnyH_take (i := 6) (v := ?_) rfl (by kernel_rfl) (by kernel_rfl) (by kernel_rfl) (fun _ _ _ h => h) (Or.inl ⟨by rfl, fun w hSw => ?_⟩) hHeld ?_
  rotate_left
  · ((try dsimp only at hSw); go_split_ands; go_simp; (try with_reducible rfl))
  try simp only [Act.put, List.getElem_toArray, List.getElem_cons_zero, List.getElem_cons_succ, List.setIfInBounds_toArray, List.set_cons_zero, List.set_cons_succ]
  refine wpAnyH_take (i := 8) (v := ?_) rfl (by kernel_rfl) (by kernel_rfl) (by kernel_rfl) (fun _ _ _ h => h) (Or.inl ⟨by rfl, fun w hSw => ?_⟩) hHeld ?_
  rotate_left
  · ((try dsimp only at hSw); go_split_ands; go_simp; (try with_reducible rfl))
  try simp only [Act.put, List.getElem_toArray, List.getElem_cons_zero, List.getElem_cons_succ, List.setIfInBounds_toArray, List.set_cons_zero, List.set_cons_succ]
  refine wpAnyH_take (i := 9) (v := ?_) rfl (by kernel_rfl) (by kernel_rfl) (by kernel_rfl) (fun _ _ _ h => h) (Or.inl ⟨by rfl, fun w hSw => ?_⟩) hHeld ?_
  rotate_left
  · ((try dsimp only at hSw); go_split_ands; go_simp; (try with_reducible rfl))
  try simp only [Act.put, List.getElem_toArray, List.getElem_cons_zero, List.getElem_cons_succ, List.setIfInBounds_toArray, List.set_cons_zero, List.set_cons_succ]
  refine wpAnyH_take (i := 10) (v := ?_) rfl (by kernel_rfl) (by kernel_rfl) (by kernel_rfl) (fun _ _ _ h => h) (Or.inl ⟨by rfl, fun w hSw => ?_⟩) hHeld ?_
  rotate_left
  · ((try dsimp only at hSw); go_split_ands; go_simp; (try with_reducible rfl))
  try simp only [Act.put, List.getElem_toArray, List.getElem_cons_zero, List.getElem_cons_succ, List.setIfInBounds_toArray, List.set_cons_zero, List.set_cons_succ]
  refine wpAnyH_take (i := 11) (v := ?_) rfl (by kernel_rfl) (by kernel_rfl) (by kernel_rfl) (fun _ _ _ h => h) (Or.inl ⟨by rfl, fun w hSw => ?_⟩) hHeld ?_
  rotate_left
  · ((try dsimp only at hSw); go_split_ands; go_simp; (try with_reducible rfl))
  try simp only [Act.put, List.getElem_toArray, List.getElem_cons_zero, List.getElem_cons_succ, List.setIfInBounds_toArray, List.set_cons_zero, List.set_cons_succ]
  refine wpAnyH_take (i := 12) (v := ?_) rfl (by kernel_rfl) (by kernel_rfl) (by kernel_rfl) (fun _ _ _ h => h) (Or.inl ⟨by rfl, fun w hSw => ?_⟩) hHeld ?_
  rotate_left
  · ((try dsimp only at hSw); go_split_ands; go_simp; (try with_reducible rfl))
  try simp only [Act.put, List.getElem_toArray, List.getElem_cons_zero, List.getElem_cons_succ, List.setIfInBounds_toArray, List.set_cons_zero, List.set_cons_succ]
  refine wpAnyH_take (i := 13) (v := ?_) rfl (by kernel_rfl) (by kernel_rfl) (by kernel_rfl) (fun _ _ _ h => h) (Or.inl ⟨by rfl, fun w hSw => ?_⟩) hHeld ?_
  rotate_left
  · ((try dsimp only at hSw); go_split_ands; go_simp; (try with_reducible rfl))
  try simp only [Act.put, List.getElem_toArray, List.getElem_cons_zero, List.getElem_cons_succ, List.setIfInBounds_toArray, List.set_cons_zero, List.set_cons_succ]
  refine wpAnyH_take (i := 14) (v := ?_) rfl (by kernel_rfl) (by kernel_rfl) (by kernel_rfl) (fun _ _ _ h => h) (Or.inl ⟨by rfl, fun w hSw => ?_⟩) hHeld ?_
  rotate_left
  · ((try dsimp only at hSw); go_split_ands; go_simp; (try with_reducible rfl))
  try simp only [Act.put, List.getElem_toArray, List.getElem_cons_zero, List.getElem_cons_succ, List.setIfInBounds_toArray, List.set_cons_zero, List.set_cons_succ]
  refine wpAnyH_ready (rs := [7]) (by kernel_rfl) (by simp) ?_
  refine AllReadyH.cons rfl (fun K hK => ?_) AllReadyH.nil
  try simp only [List.getElem_toArray, List.getElem_cons_zero, List.getElem_cons_succ]
  (go_simp; refine (c_impl_termValue F e1 s.values ((m : Int) + 1) _ (V1.out.below bel) (by omega) (by rw [h8.out.1]; exact (by omega))).mono ?_; rintro e w3 ⟨rfl, rfl⟩; rw [← hx.out])
  refine hK.out _ _ (⟨k00.cell, kM0.cell⟩) (fun hHeldN => ?_)
  clear hHeld hK K
  have hHeld := hHeldN
  clear hHeldN
  try simp only [Act.put, List.getElem_toArray, List.getElem_cons_zero, List.getElem_cons_succ, List.setIfInBounds_toArray, List.set_cons_zero, List.set_cons_succ]
  refine wpAnyH_ready (rs := [15]) (by kernel_rfl) (by simp) ?_
  refine AllReadyH.cons rfl (fun K hK => ?_) AllReadyH.nil
  try simp only [List.getElem_toArray, List.getElem_cons_zero, List.getElem_cons_succ]
  (go_simp; refine (c_impl_termValue F e1 s.values 0 _ (V1.out.below bel) (by omega) (by rw [h8.out.1]; exact (by omega))).mono ?_; rintro e w3 ⟨rfl, rfl⟩; rw [← hy.out])
  refine hK.out _ _ (⟨k00.cell, kM0.cell⟩) (fun hHeldN => ?_)
  clear hHeld hK K
  have hHeld := hHeldN
  clear hHeldN
  try simp only [Act.put, List.getElem_toArray, List.getElem_cons_zero, List.getElem_cons_succ, List.setIfInBounds_toArray, List.set_cons_zero, List.set_cons_succ]
  refine wpAnyH_take (i := 16) (v := ?_) rfl (by kernel_rfl) (by kernel_rfl) (by kernel_rfl) (fun _ _ _ h => h) (Or.inl ⟨by rfl, fun w hSw => ?_⟩) hHeld ?_
  rotate_left
  · ((try dsimp only at hSw); go_split_ands; go_simp; (try with_reducible rfl))
  try simp only [Act.put, List.getElem_toArray, List.getElem_cons_zero, List.getElem_cons_succ, List.setIfInBounds_toArray, List.set_cons_zero, List.set_cons_succ]
  refine wpAnyH_take (i := 17) (v := ?_) rfl (by kernel_rfl) (by kernel_rfl) (by kernel_rfl) (fun _ _ _ h => h) (Or.inl ⟨by rfl, fun w hSw => ?_⟩) hHeld ?_
  rotate_left
  · ((try dsimp only at hSw); go_split_ands; go_simp; (try with_reducible rfl))
  try simp only [Act.put, List.getElem_toArray, List.getElem_cons_zero, List.getElem_cons_succ, List.setIfInBounds_toArray, List.set_cons_zero, List.set_cons_succ]
  refine wpAnyH_done (by kernel_rfl) ?_ _
  refine NoPanic.normal ?_
  obtain ⟨X, hX⟩ : ∃ X, X = (w.alloc (.cells #[.int .i64 4, .int .i64 ((m : Int) + 1), .int .i64 0, .bool t.eq, .int .i64 t.a, .int .i64 t.b, vF, vA, vB, vE] tC)).drew := ⟨_, rfl⟩
  have hBX : Below w.heap.size w X := by rw [hX]; exact bel
  have kX : Blk X w.heap.size tC #[.int .i64 4, .int .i64 ((m : Int) + 1), .int .i64 0, .bool t.eq, .int .i64 t.a, .int .i64 t.b, vF, vA, vB, vE] := by rw [hX]; exact k00.drew
  have kMX : Blk X g tM #[.slice F s.values.length e1, .slice G s.heap.length e2, .int .i64 (f : Int)] := by rw [hX]; exact kM0.drew
  have oX1 := Lib.hid (o1.out.below hBX)
  have oX2 := Lib.hid (o2.out.below hBX)
  have hBw : B ≤ w.heap.size := by omega
  have hBB : Rf B w X := Rf.of hBX hBw
  rw [← hX]
  clear hX k00 kM0 kM V1 hHeld o1 o2
  (replace qkX := kX.cell; replace rkX := kX.frozen; replace lkX := kX.lt; replace qkMX := kMX.cell; replace rkMX := kMX.frozen; replace lkMX := kMX.lt)
  have hSV : Hid (StateV X B X.heap.size (.agg #[.slice F s.values.length e1, .slice G s.heap.length e2]) s) := ⟨_, _, _, _, rfl, oX1.out.readsI.2, oX2.out.readsI.2⟩
  have rM := kMX.frozen
  go_wp2_with fail
  refine (c_impl_AllocX _ s _ hSV.out HS.out).mono ?_
  rintro e w2 ⟨hor, hB2⟩
  have hXs := kMX.lt
  replace hBB := hBB.go hB2 hBw
  replace kX := kX.next hB2
  replace kMX := kMX.next hB2
  replace oX1 := Lib.hid (oX1.out.below hB2)
  replace oX2 := Lib.hid (oX2.out.below hB2)
  (replace qkX := kX.cell; replace rkX := kX.frozen; replace lkX := kX.lt; replace qkMX := kMX.cell; replace rkMX := kMX.frozen; replace lkMX := kMX.lt)
  clear hSV
  rcases hor with ⟨hf, rfl⟩ | ⟨n, r, hf, rfl, o⟩
  · have E : Hid (basicF s 4 ((m : Int) + 1) 0 = (s, 2)) := by
      show _ = _
      unfold basicF
      rw [if_neg (by decide), if_neg (by decide), if_neg (by decide), if_pos rfl, hf]
    clear hf
    go_wp2_with fail
    go_ret
    rw [E.out]
    exact ⟨rfl, ⟨hBg, _, _, kMX.alloc _, _, _, rfl, oX1.out.below (bbox (Below.refl _ _) _), oX2.out.below (bbox (Below.refl _ _) _), dj.out⟩, hBB.alloc hBw _⟩
  have E : Hid (basicF s 4 ((m : Int) + 1) 0 = (⟨s.values.set m ((n : Int) + 1), s.heap.set n 0⟩, 0)) := by
    show _ = _
    unfold basicF
    rw [if_neg (by decide), if_neg (by decide), if_neg (by decide), if_pos rfl, hf, show ((m : Int) + 1 - 1).toNat = m by omega]
  have hn8 := freeK_lt hf
  have hn8' : (n : Int) < 8 := by omega
  clear hf oX1 oX2 dj
  obtain ⟨nf, nh, rfl, p1, p2, dj⟩ := o
  obtain ⟨NF, d1, rfl, -⟩ := p1.reads
  obtain ⟨NH, d2, rfl, -⟩ := p2.reads
  simp only [List.length_set] at p1 p2 dj
  replace p1 := Lib.hid (p1.lower (base' := B) (by omega))
  replace p2 := Lib.hid (p2.lower (base' := B) (by omega))
  replace dj := Lib.hid dj
  have hvl := h8.out.1
  obtain ⟨gv, cur, -, rfl, hgv, kg, hc, hset⟩ := p1.out.cell_ (k := m) (by first | omega | (simp; omega))
  have q := kg.cell m
  rw [hc] at q
  obtain ⟨z, hz⟩ : ∃ z, z = s.values[m]'(by omega) := ⟨_, rfl⟩
  rw [← hz] at q
  have fq := kg.frozen m
  have hgvl := kg.lt
  have hne : g ≠ gv := kMX.ne_ kg (by decide)
  have hne2 : w.heap.size ≠ gv := kX.ne_ kg (by decide)
  have hml : (m : Int) < (s.values.length : Int) := by omega
  clear hset hc hz hvl
  go_wp2_with fail
  obtain ⟨V, hV⟩ : ∃ V, V = (((w2.setCell ⟨g, 0, none⟩ (.slice (some ⟨gv, 0, none⟩) s.values.length d1)).setCell ⟨g, 1, none⟩ (.slice NH s.heap.length d2)).alloc (.cells #[.slice (some ⟨gv, 0, none⟩) s.values.length d1, .slice NH s.heap.length d2] 58)) := ⟨_, rfl⟩
  have kMV : Blk V g tM #[.slice (some ⟨gv, 0, none⟩) s.values.length d1, .slice NH s.heap.length d2, .int .i64 (f : Int)] := by rw [hV]; exact ((kMX.set_ 0 _).set_ 1 _).alloc _
  have kXV : Blk V w.heap.size tC #[.int .i64 4, .int .i64 ((m : Int) + 1), .int .i64 0, .bool t.eq, .int .i64 t.a, .int .i64 t.b, vF, vA, vB, vE] := by rw [hV]; exact ((kX.far (p := ⟨g, 0, none⟩) (Ne.symm hgne) _).far (p := ⟨g, 1, none⟩) (Ne.symm hgne) _).alloc _
  have kgV : Blk V gv tI cur := by rw [hV]; exact ((kg.far (p := ⟨g, 0, none⟩) (Ne.symm hne) _).far (p := ⟨g, 1, none⟩) (Ne.symm hne) _).alloc _
  have q1 : V.cell? ⟨gv, m, none⟩ = some (.int .i64 z) := (kgV.cell m).trans ((kg.cell m).symm.trans q)
  have fq1 := kgV.frozen m
  have hgvl1 := kgV.lt
  have pV1 : IntsO V B (.slice (some ⟨gv, 0, none⟩) s.values.length d1) s.values := by rw [hV]; exact ((p1.out.setT kMX (by decide) 0 _).setT (kMX.set_ 0 _) (by decide) 1 _).below (bbox (Below.refl _ _) _)
  have pV2 : IntsO V B (.slice NH s.heap.length d2) (s.heap.set n 0) := by rw [hV]; exact ((p2.out.setT kMX (by decide) 0 _).setT (kMX.set_ 0 _) (by decide) 1 _).below (bbox (Below.refl _ _) _)
  have hBV : Rf B w V := by rw [hV]; exact ((hBB.set (p := ⟨g, 0, none⟩) kMX (by decide) hBg _).set (p := ⟨g, 1, none⟩) (kMX.set_ 0 _) (by decide) hBg _).alloc hBw _
  obtain ⟨gv', cur', -, ev, hgv', kg', hc', hset'⟩ := pV1.cell_ (k := m) (by have := h8.out.1; omega)
  injection ev with ev; injection ev with ev; subst ev
  have HSET := Lib.hid (hset' ((n : Int) + 1))
  replace pV2 := Lib.hid pV2
  have hwm : IntKind.i64.wrap (m : Int) = (m : Int) := IntWalk.i64_in _ (by omega)
  rw [← hV]
  clear hV kMX kX kg q fq hgvl p1 p2 hBB pV1 hset' kg' hc' qkX rkX lkX qkMX rkMX lkMX
  refine wp_region_noPanic ?_
  refine wp_region_last' (S := (fun w' => (∀ j, w'.cell? ⟨w.heap.size, j, none⟩ = #[.int .i64 4, .int .i64 ((m : Int) + 1), .int .i64 0, .bool t.eq, .int .i64 t.a, .int .i64 t.b, vF, vA, vB, vE][j]?) ∧ (∀ j, w'.cell? ⟨g, j, none⟩ = #[.slice (some ⟨gv, 0, none⟩) s.values.length d1, .slice NH s.heap.length d2, .int .i64 (f : Int)][j]?) ∧ w'.cell? ⟨gv, m, none⟩ = some (.int .i64 z) ∧ w'.frozen? ⟨gv, m, none⟩ = false)) (by simp) (by kernel_rfl) (by kernel_rfl) (⟨kXV.cell, kMV.cell, q1, fq1⟩) (fun hHeld => ?_)
  simp only [List.dropLast, List.getLast, nopOf, List.cons_append, List.nil_append, List.length_cons, List.length_nil, Nat.zero_add, Nat.reduceAdd]
  refine wpAnyH_take (i := 0) (v := ?_) rfl (by kernel_rfl) (by kernel_rfl) (by kernel_rfl) (fun _ _ _ h => h) (Or.inl ⟨by rfl, fun w hSw => ?_⟩) hHeld ?_
  rotate_left
  · ((try dsimp only at hSw); go_split_ands; go_simp; (try with_reducible rfl))
  try simp only [Act.put, List.getElem_toArray, List.getElem_cons_zero, List.getElem_cons_succ, List.setIfInBounds_toArray, List.set_cons_zero, List.set_cons_succ]
  refine wpAnyH_take (i := 1) (v := ?_) rfl (by kernel_rfl) (by kernel_rfl) (by kernel_rfl) (fun _ _ _ h => h) (Or.inl ⟨by rfl, fun w hSw => ?_⟩) hHeld ?_
  rotate_left
  · ((try dsimp only at hSw); go_split_ands; go_simp; (try with_reducible rfl))
  try simp only [Act.put, List.getElem_toArray, List.getElem_cons_zero, List.getElem_cons_succ, List.setIfInBounds_toArray, List.set_cons_zero, List.set_cons_succ]
  refine wpAnyH_take (i := 2) (v := ?_) rfl (by kernel_rfl) (by kernel_rfl) (by kernel_rfl) (fun _ _ _ h => h) (Or.inl ⟨by rfl, fun w hSw => ?_⟩) hHeld ?_
  rotate_left
  · ((try dsimp only at hSw); go_split_ands; go_simp; (try with_reducible rfl))
  try simp only [Act.put, List.getElem_toArray, List.getElem_cons_zero, List.getElem_cons_succ, List.setIfInBounds_toArray, List.set_cons_zero, List.set_cons_succ]
  refine wpAnyH_take (i := 3) (v := ?_) rfl (by kernel_rfl) (by kernel_rfl) (by kernel_rfl) (fun _ _ _ h => h) (Or.inl ⟨by rfl, fun w hSw => ?_⟩) hHeld ?_
  rotate_left
  · ((try dsimp only at hSw); go_split_ands; go_simp; (try with_reducible rfl))
  try simp only [Act.put, List.getElem_toArray, List.getElem_cons_zero, List.getElem_cons_succ, List.setIfInBounds_toArray, List.set_cons_zero, List.set_cons_succ]
  refine wpAnyH_take (i := 4) (v := ?_) rfl (by kernel_rfl) (by kernel_rfl) (by kernel_rfl) (fun _ _ _ h => h) (Or.inl ⟨by rfl, fun w hSw => ?_⟩) hHeld ?_
  rotate_left
  · ((try dsimp only at hSw); go_split_ands; go_simp; (try with_reducible rfl))
  try simp only [Act.put, List.getElem_toArray, List.getElem_cons_zero, List.getElem_cons_succ, List.setIfInBounds_toArray, List.set_cons_zero, List.set_cons_succ]
  refine wpAnyH_take (i := 5) (v := ?_) rfl (by kernel_rfl) (by kernel_rfl) (by kernel_rfl) (fun _ _ _ h => h) (Or.inl ⟨by rfl, fun w hSw => ?_⟩) hHeld ?_
  rotate_left
  · ((try dsimp only at hSw); go_split_ands; go_simp; (try with_reducible rfl))
  try simp only [Act.put, List.getElem_toArray, List.getElem_cons_zero, List.getElem_cons_succ, List.setIfInBounds_toArray, List.set_cons_zero, List.set_cons_succ]
  refine wpAnyH_take (i := 6) (v := ?_) rfl (by kernel_rfl) (by kernel_rfl) (by kernel_rfl) (fun _ _ _ h => h) (Or.inl ⟨by rfl, fun w hSw => ?_⟩) hHeld ?_
  rotate_left
  · ((try dsimp only at hSw); go_split_ands; go_simp; (try with_reducible rfl))
  try simp only [Act.put, List.getElem_toArray, List.getElem_cons_zero, List.getElem_cons_succ, List.setIfInBounds_toArray, List.set_cons_zero, List.set_cons_succ]
  refine wpAnyH_take (i := 7) (v := ?_) rfl (by kernel_rfl) (by kernel_rfl) (by kernel_rfl) (fun _ _ _ h => h) (Or.inl ⟨by rfl, fun w hSw => ?_⟩) hHeld ?_
  rotate_left
  · ((try dsimp only at hSw); go_split_ands; go_simp; (try with_reducible rfl))
  try simp only [Act.put, List.getElem_toArray, List.getElem_cons_zero, List.getElem_cons_succ, List.setIfInBounds_toArray, List.set_cons_zero, List.set_cons_succ]
  refine wpAnyH_take (i := 8) (v := ?_) rfl (by kernel_rfl) (by kernel_rfl) (by kernel_rfl) (fun _ _ _ h => h) (Or.inl ⟨by rfl, fun w hSw => ?_⟩) hHeld ?_
  rotate_left
  · ((try dsimp only at hSw); go_split_ands; go_simp; (try with_reducible rfl))
  try simp only [Act.put, List.getElem_toArray, List.getElem_cons_zero, List.getElem_cons_succ, List.setIfInBounds_toArray, List.set_cons_zero, List.set_cons_succ]
  refine wpAnyH_take (i := 9) (v := ?_) rfl (by kernel_rfl) (by kernel_rfl) (by kernel_rfl) (fun _ _ _ h => h) (Or.inl ⟨by rfl, fun w hSw => ?_⟩) hHeld ?_
  rotate_left
  · ((try dsimp only at hSw); go_split_ands; go_simp; (try with_reducible rfl))
  try simp only [Act.put, List.getElem_toArray, List.getElem_cons_zero, List.getElem_cons_succ, List.setIfInBounds_toArray, List.set_cons_zero, List.set_cons_succ]
  refine wpAnyH_ready (rs := [10]) (by kernel_rfl) (by simp) ?_
  refine AllReadyH.cons rfl (fun K hK => ?_) AllReadyH.nil
  go_simp
  refine hK.out _ _ (⟨kXV.cell, kMV.cell, q1, fq1⟩) (fun hHeld => ?_)
  clear hK K
  refine wpAnyH_done (by kernel_rfl) ?_ _
  unfold lastQ
  go_simp
  refine NoPanic.normal ?_
  go_wp2_with fail
  go_ret
  rw [E.out]
  refine ⟨rfl, ⟨hBg, _, _, kMV.drewX.far (p := ⟨gv, m, none⟩) hne _, _, _, rfl, HSET.out, ?_, dj.out⟩, hBV.drew.set (p := ⟨gv, m, none⟩) kgV.drewX (by decide) hgv _⟩
  exact pV2.out.set_ne (q := ⟨gv, m, none⟩) (dj.out gv rfl) _
theorem c_impl_basic (w : World) (B g : Nat) (s : Ste) (f : Nat) (k a b : Int) (t : Fct) (vF vA vB vE : Value) (hM : Mach w B g s f) (hs : s.valid = true) (hf : fieldsB k a b = true) :
    Calls Try.prog 259 #[.pointer (some ⟨g, 0, none⟩), .agg #[.int .i64 k, .int .i64 a, .int .i64 b, .bool t.eq, .int .i64 t.a, .int .i64 t.b, vF, vA, vB, vE]] w fun e w' => e = .returned (.int .i64 (basicF s k a b).2) ∧ Mach w' B g (basicF s k a b).1 f ∧ Rf B w w' := by
  have hk := fieldsB_basic hf
  unfold fieldsB at hf
  have hP : ∀ {x : Int}, isProgB x = true → ∃ m : Nat, x = (m : Int) + 1 ∧ m < 4 := fun {x} h => by
    simp [isProgB] at h
    exact ⟨(x - 1).toNat, by omega, by omega⟩
  by_cases k1 : k = 1
  · subst k1
    rw [if_pos (Or.inl rfl), Bool.and_eq_true] at hf
    obtain ⟨m, rfl, hm⟩ := hP hf.1
    exact basic_set w B g s f m b hm (isTermB_iff.1 hf.2) t vF vA vB vE hM hs
  by_cases k2 : k = 2
  · subst k2
    rw [if_pos (Or.inr rfl), Bool.and_eq_true] at hf
    obtain ⟨m, rfl, hm⟩ := hP hf.1
    exact basic_load w B g s f m b hm (isTermB_iff.1 hf.2) t vF vA vB vE hM hs
  rw [if_neg (by omega)] at hf
  by_cases k3 : k = 3
  · subst k3
    rw [if_pos rfl, Bool.and_eq_true] at hf
    exact basic_store w B g s f a b (isTermB_iff.1 hf.1) (isTermB_iff.1 hf.2) t vF vA vB vE hM hs
  rw [if_neg k3] at hf
  by_cases k4 : k = 4
  · subst k4
    rw [if_pos rfl, Bool.and_eq_true, decide_eq_true_eq] at hf
    obtain ⟨hf1, rfl⟩ := hf
    obtain ⟨m, rfl, hm⟩ := hP hf1
    exact basic_new w B g s f m hm t vF vA vB vE hM hs
  rw [if_neg k4] at hf
  obtain rfl : k = 5 := by omega
  rw [if_pos rfl, Bool.and_eq_true, decide_eq_true_eq] at hf
  obtain ⟨hf1, rfl⟩ := hf
  exact basic_free w B g s f a (isTermB_iff.1 hf1) t vF vA vB vE hM hs
--@
end Go.Proofs.Ytcgifoghggajgaa
