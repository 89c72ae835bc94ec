/- Symbolic execution: impl.accessed. Printed by genSymK.py. -/
import Derived.Test.YtlmjjflalmegfaaGreatSymJ
import Derived.Test.YtlmjjflalmegfaaGreatCmdJ
set_option linter.unusedSimpArgs false
set_option linter.unusedVariables false
namespace Go.Proofs.YtlmjjflalmegfaaGreat
open Go Go.RowKit Go.Proofs
attribute [local go_sem ↓] Go.wp_at_zero Go.wp_at_succ

theorem AtomsO.storeB {w : World} {base g n c : Nat} {fs : List Atm} (h : AtomsO w base (.slice (some ⟨g, 0, none⟩) n c) fs) (hk : 0 < fs.length) (v : Int) {x : Atm} (hx : fs[0]? = some x) : AtomsO (w.setCell ⟨g, 2, none⟩ (.int .i64 v)) base (.slice (some ⟨g, 0, none⟩) n c) (fs.set 0 ⟨x.kind, x.a, v⟩) := by
  have e : fs[0] = x := by rw [List.getElem?_eq_getElem hk] at hx; exact Option.some.inj hx
  have := AtomsO.setB h (k := 0) hk v (gs := fs.set 0 ⟨x.kind, x.a, v⟩) (by rw [e])
  simpa using this
--@ impl.accessed
theorem c_without0 {lo hi : Nat} (v : Value) (a : Asn) (w : World) (h : AsnC w lo hi v a) (hi : 0 < a.atoms.length) :
    Calls Tryz.prog 173 #[v, .int .i64 0] w fun e w' => ∃ G g, e = .returned (.slice G (freeX a).atoms.length g) ∧ AtomsO w' w.heap.size (.slice G (freeX a).atoms.length g) (freeX a).atoms ∧ Below w.heap.size w w' := by
  have := c_impl_without v a 0 w h hi
  refine Calls.mono this ?_
  rintro e w' ⟨r, rfl, o, hB⟩
  obtain ⟨G, g, rfl, -⟩ := o.reads
  exact ⟨G, g, rfl, o, hB⟩
set_option maxRecDepth 100000 in
set_option maxHeartbeats 3200000 in
theorem c_acc2 {lo hi : Nat} (v : Value) (a : Asn) (A B : Int) (t : Fct) (X1 X2 X3 X4 : Option Addr) (n1 n2 n3 n4 d1 d2 d3 d4 K0 : Nat) (w : World) (h : AsnC w lo hi v a) (h0 : 0 < a.atoms.length) (hl : a.facts.length ≤ 1000 ∧ a.atoms.length ≤ 1000) (hK0 : K0 < 512) (HA : isTermB A = true) :
    Calls Tryz.prog 164 #[v, .agg #[.int .i64 2, .int .i64 A, .int .i64 B, .bool t.eq, .int .i64 t.a, .int .i64 t.b, .slice X1 n1 d1, .slice X2 n2 d2, .slice X3 n3 d3, .slice X4 n4 d4], .int .u16 K0] w fun e w' => ∃ r, e = .returned (.tuple #[r, .bool (accF 2 A B a K0).isSome]) ∧ OptO w' w.heap.size r (accF 2 A B a K0) ∧ Below w.heap.size w w' := by
  have hV := Lib.hid h
  obtain ⟨A1, c1, A2, c2, rfl, h1, h2, -⟩ := h
  have H1 := Lib.hid h1
  have H2 := Lib.hid h2
  obtain ⟨b, o, rfl, g0, g1, g2⟩ := h2.at h0
  have E0 : Hid (a.atoms[0]? = some (head0 a)) := Lib.hid (by unfold head0; rw [List.getElem?_eq_getElem h0]; rfl)
  have e0 : a.atoms[0] = head0 a := by unfold head0; rw [List.getElem?_eq_getElem h0]; rfl
  obtain ⟨xb, hxb⟩ : ∃ x, x = (head0 a).b := ⟨_, rfl⟩
  rw [e0] at g0 g1 g2
  rw [← hxb] at g2
  replace hxb := Lib.hid hxb
  have hbl := block_lt_of_cell g2
  simp only [Nat.zero_mul, Nat.add_zero] at hbl g2
  have hii : (0 : Int) < (a.atoms.length : Int) := by omega
  clear h1 h2 g0 g1 e0
  have E : Hid (accF 2 A B a K0 = assignF a A xb K0) := Lib.hid (by rw [hxb.out]; rfl)
  go_enter Tryz.func164, Tryz.ntmps164
  have k3 : Blk (((w.alloc (.cells #[.slice A1 a.facts.length c1, .slice (some ⟨b, o, none⟩) a.atoms.length c2] tAs)).alloc (.cells #[.int .i64 2, .int .i64 A, .int .i64 B, .bool t.eq, .int .i64 t.a, .int .i64 t.b, .slice X1 n1 d1, .slice X2 n2 d2, .slice X3 n3 d3, .slice X4 n4 d4] tC)).alloc (.cells #[.slice none 0 0, .slice none 0 0] tAs)) w.heap.size tAs #[.slice A1 a.facts.length c1, .slice (some ⟨b, o, none⟩) a.atoms.length c2] := blks
  have k4 : Blk (((w.alloc (.cells #[.slice A1 a.facts.length c1, .slice (some ⟨b, o, none⟩) a.atoms.length c2] tAs)).alloc (.cells #[.int .i64 2, .int .i64 A, .int .i64 B, .bool t.eq, .int .i64 t.a, .int .i64 t.b, .slice X1 n1 d1, .slice X2 n2 d2, .slice X3 n3 d3, .slice X4 n4 d4] tC)).alloc (.cells #[.slice none 0 0, .slice none 0 0] tAs)) (w.heap.size + 1) tC #[.int .i64 2, .int .i64 A, .int .i64 B, .bool t.eq, .int .i64 t.a, .int .i64 t.b, .slice X1 n1 d1, .slice X2 n2 d2, .slice X3 n3 d3, .slice X4 n4 d4] := blks
  have k6 : Blk (((w.alloc (.cells #[.slice A1 a.facts.length c1, .slice (some ⟨b, o, none⟩) a.atoms.length c2] tAs)).alloc (.cells #[.int .i64 2, .int .i64 A, .int .i64 B, .bool t.eq, .int .i64 t.a, .int .i64 t.b, .slice X1 n1 d1, .slice X2 n2 d2, .slice X3 n3 d3, .slice X4 n4 d4] tC)).alloc (.cells #[.slice none 0 0, .slice none 0 0] tAs)) (w.heap.size + 1 + 1) tAs #[.slice none 0 0, .slice none 0 0] := blks
  have HB : Hid (Below w.heap.size w (((w.alloc (.cells #[.slice A1 a.facts.length c1, .slice (some ⟨b, o, none⟩) a.atoms.length c2] tAs)).alloc (.cells #[.int .i64 2, .int .i64 A, .int .i64 B, .bool t.eq, .int .i64 t.a, .int .i64 t.b, .slice X1 n1 d1, .slice X2 n2 d2, .slice X3 n3 d3, .slice X4 n4 d4] tC)).alloc (.cells #[.slice none 0 0, .slice none 0 0] tAs))) := Lib.hid bel
  have hz : (((w.alloc (.cells #[.slice A1 a.facts.length c1, .slice (some ⟨b, o, none⟩) a.atoms.length c2] tAs)).alloc (.cells #[.int .i64 2, .int .i64 A, .int .i64 B, .bool t.eq, .int .i64 t.a, .int .i64 t.b, .slice X1 n1 d1, .slice X2 n2 d2, .slice X3 n3 d3, .slice X4 n4 d4] tC)).alloc (.cells #[.slice none 0 0, .slice none 0 0] tAs)).heap.size = w.heap.size + 3 := by simp
  have hq2 : (((w.alloc (.cells #[.slice A1 a.facts.length c1, .slice (some ⟨b, o, none⟩) a.atoms.length c2] tAs)).alloc (.cells #[.int .i64 2, .int .i64 A, .int .i64 B, .bool t.eq, .int .i64 t.a, .int .i64 t.b, .slice X1 n1 d1, .slice X2 n2 d2, .slice X3 n3 d3, .slice X4 n4 d4] tC)).alloc (.cells #[.slice none 0 0, .slice none 0 0] tAs)).cell? ⟨b, o + 2, none⟩ = some (.int .i64 xb) := (HB.out.cell (p := ⟨b, o + 2, none⟩) hbl).trans g2
  go_upto_region 3 with fail
  generalize (((w.alloc (.cells #[.slice A1 a.facts.length c1, .slice (some ⟨b, o, none⟩) a.atoms.length c2] tAs)).alloc (.cells #[.int .i64 2, .int .i64 A, .int .i64 B, .bool t.eq, .int .i64 t.a, .int .i64 t.b, .slice X1 n1 d1, .slice X2 n2 d2, .slice X3 n3 d3, .slice X4 n4 d4] tC)).alloc (.cells #[.slice none 0 0, .slice none 0 0] tAs)) = W at k3 k4 k6 hq2 HB hz ⊢
  have hdz : W.drew.heap.size = W.heap.size := rfl
  have hq2d : W.drew.cell? ⟨b, o + 2, none⟩ = some (.int .i64 xb) := hq2
  refine wp_region_noPanic ?_
  refine wp_region_held_drew (S := (fun w' => (∀ i, w'.cell? ⟨w.heap.size, i, none⟩ = #[.slice A1 a.facts.length c1, .slice (some ⟨b, o, none⟩) a.atoms.length c2][i]?) ∧ (∀ i, w'.cell? ⟨w.heap.size + 1, i, none⟩ = #[.int .i64 2, .int .i64 A, .int .i64 B, .bool t.eq, .int .i64 t.a, .int .i64 t.b, .slice X1 n1 d1, .slice X2 n2 d2, .slice X3 n3 d3, .slice X4 n4 d4][i]?) ∧ w'.cell? ⟨b, o + 2, none⟩ = some (.int .i64 xb))) (by kernel_rfl) (⟨k3.drew.cell, k4.drew.cell, hq2d⟩) (fun hHeld => ?_)
  refine wpAnyH_take (i := 0) (v := ?_) rfl (by kernel_rfl) (by kernel_rfl) (by kernel_rfl) (fun _ _ _ h => h) (Or.inl ⟨by rfl, fun w hSw => ?_⟩) hHeld ?_
  rotate_left
  · ((try dsimp only at hSw); go_split_ands; go_simp; (try with_reducible rfl))
  try simp only [Act.put, List.getElem_toArray, List.getElem_cons_zero, List.getElem_cons_succ, List.setIfInBounds_toArray, List.set_cons_zero, List.set_cons_succ]
  refine wpAnyH_take (i := 1) (v := ?_) rfl (by kernel_rfl) (by kernel_rfl) (by kernel_rfl) (fun _ _ _ h => h) (Or.inl ⟨by rfl, fun w hSw => ?_⟩) hHeld ?_
  rotate_left
  · ((try dsimp only at hSw); go_split_ands; go_simp; (try with_reducible rfl))
  try simp only [Act.put, List.getElem_toArray, List.getElem_cons_zero, List.getElem_cons_succ, List.setIfInBounds_toArray, List.set_cons_zero, List.set_cons_succ]
  refine wpAnyH_take (i := 2) (v := ?_) rfl (by kernel_rfl) (by kernel_rfl) (by kernel_rfl) (fun _ _ _ h => h) (Or.inl ⟨by rfl, fun w hSw => ?_⟩) hHeld ?_
  rotate_left
  · ((try dsimp only at hSw); go_split_ands; go_simp; (try with_reducible rfl))
  try simp only [Act.put, List.getElem_toArray, List.getElem_cons_zero, List.getElem_cons_succ, List.setIfInBounds_toArray, List.set_cons_zero, List.set_cons_succ]
  refine wpAnyH_take (i := 3) (v := ?_) rfl (by kernel_rfl) (by kernel_rfl) (by kernel_rfl) (fun _ _ _ h => h) (Or.inl ⟨by rfl, fun w hSw => ?_⟩) hHeld ?_
  rotate_left
  · ((try dsimp only at hSw); go_split_ands; go_simp; (try with_reducible rfl))
  try simp only [Act.put, List.getElem_toArray, List.getElem_cons_zero, List.getElem_cons_succ, List.setIfInBounds_toArray, List.set_cons_zero, List.set_cons_succ]
  refine wpAnyH_take (i := 4) (v := ?_) rfl (by kernel_rfl) (by kernel_rfl) (by kernel_rfl) (fun _ _ _ h => h) (Or.inl ⟨by rfl, fun w hSw => ?_⟩) hHeld ?_
  rotate_left
  · ((try dsimp only at hSw); go_split_ands; go_simp; (try with_reducible rfl))
  try simp only [Act.put, List.getElem_toArray, List.getElem_cons_zero, List.getElem_cons_succ, List.setIfInBounds_toArray, List.set_cons_zero, List.set_cons_succ]
  refine wpAnyH_take (i := 5) (v := ?_) rfl (by kernel_rfl) (by kernel_rfl) (by kernel_rfl) (fun _ _ _ h => h) (Or.inl ⟨by rfl, fun w hSw => ?_⟩) hHeld ?_
  rotate_left
  · ((try dsimp only at hSw); go_split_ands; go_simp; (try with_reducible rfl))
  try simp only [Act.put, List.getElem_toArray, List.getElem_cons_zero, List.getElem_cons_succ, List.setIfInBounds_toArray, List.set_cons_zero, List.set_cons_succ]
  refine wpAnyH_take (i := 6) (v := ?_) rfl (by kernel_rfl) (by kernel_rfl) (by kernel_rfl) (fun _ _ _ h => h) (Or.inl ⟨by rfl, fun w hSw => ?_⟩) hHeld ?_
  rotate_left
  · ((try dsimp only at hSw); go_split_ands; go_simp; (try with_reducible rfl))
  try simp only [Act.put, List.getElem_toArray, List.getElem_cons_zero, List.getElem_cons_succ, List.setIfInBounds_toArray, List.set_cons_zero, List.set_cons_succ]
  refine wpAnyH_take (i := 7) (v := ?_) rfl (by kernel_rfl) (by kernel_rfl) (by kernel_rfl) (fun _ _ _ h => h) (Or.inl ⟨by rfl, fun w hSw => ?_⟩) hHeld ?_
  rotate_left
  · ((try dsimp only at hSw); go_split_ands; go_simp; (try with_reducible rfl))
  try simp only [Act.put, List.getElem_toArray, List.getElem_cons_zero, List.getElem_cons_succ, List.setIfInBounds_toArray, List.set_cons_zero, List.set_cons_succ]
  refine wpAnyH_take (i := 8) (v := ?_) rfl (by kernel_rfl) (by kernel_rfl) (by kernel_rfl) (fun _ _ _ h => h) (Or.inl ⟨by rfl, fun w hSw => ?_⟩) hHeld ?_
  rotate_left
  · ((try dsimp only at hSw); go_split_ands; go_simp; (try with_reducible rfl))
  try simp only [Act.put, List.getElem_toArray, List.getElem_cons_zero, List.getElem_cons_succ, List.setIfInBounds_toArray, List.set_cons_zero, List.set_cons_succ]
  refine wpAnyH_ready (rs := [9]) (by kernel_rfl) (by simp) ?_
  refine AllReadyH.cons rfl (fun K hK => ?_) AllReadyH.nil
  try simp only [List.getElem_toArray, List.getElem_cons_zero, List.getElem_cons_succ]
  (go_simp; refine (c_impl_assigned _ a A xb K0 _ (hV.out.V.below HB.out.drew) hK0 HA hl.1).mono ?_; rintro e w1 ⟨r, rfl, oX, hB1⟩; replace hB1 : Below W.heap.size W w1 := (Below.refl _ _).drew.trans hB1; obtain ⟨⟨F, n, f, G, m, g, rfl⟩, oX⟩ := oX; have k31 := k3.next hB1; have k41 := k4.next hB1; have k61 := k6.next hB1; have hq21 : w1.cell? ⟨b, o + 2, none⟩ = some (.int .i64 xb) := (hB1.cell (p := ⟨b, o + 2, none⟩) (by simp only; omega)).trans hq2; have HB1 := Lib.hid (bgo HB.out hB1); have OX := Lib.hid oX; have hz1 := hB1.size; clear hB1 oX)
  refine hK.out _ _ (⟨k31.cell, k41.cell, hq21⟩) (fun hHeldN => ?_)
  clear hHeld hK K
  have hHeld := hHeldN
  clear hHeldN
  try simp only [Act.put, List.getElem_toArray, List.getElem_cons_zero, List.getElem_cons_succ, List.setIfInBounds_toArray, List.set_cons_zero, List.set_cons_succ]
  refine wpAnyH_take (i := 10) (v := ?_) rfl (by kernel_rfl) (by kernel_rfl) (by kernel_rfl) (fun _ _ _ h => h) (Or.inl ⟨by rfl, fun w hSw => ?_⟩) hHeld ?_
  rotate_left
  · ((try dsimp only at hSw); go_split_ands; go_simp; (try with_reducible rfl))
  try simp only [Act.put, List.getElem_toArray, List.getElem_cons_zero, List.getElem_cons_succ, List.setIfInBounds_toArray, List.set_cons_zero, List.set_cons_succ]
  refine wpAnyH_take (i := 11) (v := ?_) rfl (by kernel_rfl) (by kernel_rfl) (by kernel_rfl) (fun _ _ _ h => h) (Or.inl ⟨by rfl, fun w hSw => ?_⟩) hHeld ?_
  rotate_left
  · ((try dsimp only at hSw); go_split_ands; go_simp; (try with_reducible rfl))
  try simp only [Act.put, List.getElem_toArray, List.getElem_cons_zero, List.getElem_cons_succ, List.setIfInBounds_toArray, List.set_cons_zero, List.set_cons_succ]
  have l61 := k61.lt
  have q61 := k61.cell
  have r61 := k61.frozen
  refine wpAnyH_ready (rs := [12]) (by kernel_rfl) (by simp) ?_
  refine AllReadyH.cons rfl (fun K hK => ?_) AllReadyH.nil
  try simp only [List.getElem_toArray, List.getElem_cons_zero, List.getElem_cons_succ]
  go_simp
  refine hK.out _ _ (⟨((k31.far (p := ⟨w.heap.size + 1 + 1, 0, none⟩) (by simp only; omega) _).far (p := ⟨w.heap.size + 1 + 1, 1, none⟩) (by simp only; omega) _).cell, ((k41.far (p := ⟨w.heap.size + 1 + 1, 0, none⟩) (by simp only; omega) _).far (p := ⟨w.heap.size + 1 + 1, 1, none⟩) (by simp only; omega) _).cell, ((((HB1.out.setCell (p := ⟨w.heap.size + 1 + 1, 0, none⟩) (by simp only; omega) _).setCell (p := ⟨w.heap.size + 1 + 1, 1, none⟩) (by simp only; omega) _).cell (p := ⟨b, o + 2, none⟩) hbl).trans g2)⟩) (fun hHeldN => ?_)
  clear hHeld hK K
  have hHeld := hHeldN
  clear hHeldN
  try simp only [Act.put, List.getElem_toArray, List.getElem_cons_zero, List.getElem_cons_succ, List.setIfInBounds_toArray, List.set_cons_zero, List.set_cons_succ]
  refine wpAnyH_take (i := 13) (v := ?_) rfl (by kernel_rfl) (by kernel_rfl) (by kernel_rfl) (fun _ _ _ h => h) (Or.inl ⟨by rfl, fun w hSw => ?_⟩) hHeld ?_
  rotate_left
  · ((try dsimp only at hSw); go_split_ands; go_simp; (try with_reducible rfl))
  try simp only [Act.put, List.getElem_toArray, List.getElem_cons_zero, List.getElem_cons_succ, List.setIfInBounds_toArray, List.set_cons_zero, List.set_cons_succ]
  refine wpAnyH_done (by kernel_rfl) ?_ _
  refine NoPanic.normal ?_
  go_wp2_with fail
  have z6 := ((k61.set_ 0 (.slice F n f)).set_ 1 (.slice G m g)).cell
  refine bodyPost_ret (v := .tuple #[.agg #[.slice F n f, .slice G m g], .bool (assignF a A xb K0).isSome]) (by simp [results, Tryz.results164, go_sem, z6]) rfl ⟨_, by rw [E.out], ?_, ?_⟩
  · rw [E.out]
    exact ⟨⟨_, _, _, _, _, _, rfl⟩, fun c hc => (AsnO.setT2 (OX.out c hc) k61 _ _).lower (by omega)⟩
  · exact (HB1.out.setCell (p := ⟨w.heap.size + 1 + 1, 0, none⟩) (by simp only; omega) _).setCell (p := ⟨w.heap.size + 1 + 1, 1, none⟩) (by simp only; omega) _
set_option maxRecDepth 100000 in
set_option maxHeartbeats 3200000 in
theorem c_acc3 {lo hi : Nat} (v : Value) (a : Asn) (A B : Int) (t : Fct) (X1 X2 X3 X4 : Option Addr) (n1 n2 n3 n4 d1 d2 d3 d4 K0 : Nat) (w : World) (h : AsnC w lo hi v a) (h0 : 0 < a.atoms.length) (hl : a.facts.length ≤ 1000 ∧ a.atoms.length ≤ 1000) (hK0 : K0 < 512) :
    Calls Tryz.prog 164 #[v, .agg #[.int .i64 3, .int .i64 A, .int .i64 B, .bool t.eq, .int .i64 t.a, .int .i64 t.b, .slice X1 n1 d1, .slice X2 n2 d2, .slice X3 n3 d3, .slice X4 n4 d4], .int .u16 K0] w fun e w' => ∃ r, e = .returned (.tuple #[r, .bool (accF 3 A B a K0).isSome]) ∧ OptO w' w.heap.size r (accF 3 A B a K0) ∧ Below w.heap.size w w' := by
  have hV := Lib.hid h
  obtain ⟨A1, c1, A2, c2, rfl, h1, h2, -⟩ := h
  have H1 := Lib.hid h1
  have H2 := Lib.hid h2
  obtain ⟨b, o, rfl, g0, g1, g2⟩ := h2.at h0
  have E0 : Hid (a.atoms[0]? = some (head0 a)) := Lib.hid (by unfold head0; rw [List.getElem?_eq_getElem h0]; rfl)
  have e0 : a.atoms[0] = head0 a := by unfold head0; rw [List.getElem?_eq_getElem h0]; rfl
  obtain ⟨xb, hxb⟩ : ∃ x, x = (head0 a).b := ⟨_, rfl⟩
  rw [e0] at g0 g1 g2
  rw [← hxb] at g2
  replace hxb := Lib.hid hxb
  have hbl := block_lt_of_cell g2
  simp only [Nat.zero_mul, Nat.add_zero] at hbl g2
  have hii : (0 : Int) < (a.atoms.length : Int) := by omega
  clear h1 h2 g0 g1 e0
  have E : Hid (accF 3 A B a K0 = some (storeX a B)) := Lib.hid rfl
  go_enter Tryz.func164, Tryz.ntmps164
  have k3 : Blk (((w.alloc (.cells #[.slice A1 a.facts.length c1, .slice (some ⟨b, o, none⟩) a.atoms.length c2] tAs)).alloc (.cells #[.int .i64 3, .int .i64 A, .int .i64 B, .bool t.eq, .int .i64 t.a, .int .i64 t.b, .slice X1 n1 d1, .slice X2 n2 d2, .slice X3 n3 d3, .slice X4 n4 d4] tC)).alloc (.cells #[.slice none 0 0, .slice none 0 0] tAs)) w.heap.size tAs #[.slice A1 a.facts.length c1, .slice (some ⟨b, o, none⟩) a.atoms.length c2] := blks
  have k4 : Blk (((w.alloc (.cells #[.slice A1 a.facts.length c1, .slice (some ⟨b, o, none⟩) a.atoms.length c2] tAs)).alloc (.cells #[.int .i64 3, .int .i64 A, .int .i64 B, .bool t.eq, .int .i64 t.a, .int .i64 t.b, .slice X1 n1 d1, .slice X2 n2 d2, .slice X3 n3 d3, .slice X4 n4 d4] tC)).alloc (.cells #[.slice none 0 0, .slice none 0 0] tAs)) (w.heap.size + 1) tC #[.int .i64 3, .int .i64 A, .int .i64 B, .bool t.eq, .int .i64 t.a, .int .i64 t.b, .slice X1 n1 d1, .slice X2 n2 d2, .slice X3 n3 d3, .slice X4 n4 d4] := blks
  have k6 : Blk (((w.alloc (.cells #[.slice A1 a.facts.length c1, .slice (some ⟨b, o, none⟩) a.atoms.length c2] tAs)).alloc (.cells #[.int .i64 3, .int .i64 A, .int .i64 B, .bool t.eq, .int .i64 t.a, .int .i64 t.b, .slice X1 n1 d1, .slice X2 n2 d2, .slice X3 n3 d3, .slice X4 n4 d4] tC)).alloc (.cells #[.slice none 0 0, .slice none 0 0] tAs)) (w.heap.size + 1 + 1) tAs #[.slice none 0 0, .slice none 0 0] := blks
  have HB : Hid (Below w.heap.size w (((w.alloc (.cells #[.slice A1 a.facts.length c1, .slice (some ⟨b, o, none⟩) a.atoms.length c2] tAs)).alloc (.cells #[.int .i64 3, .int .i64 A, .int .i64 B, .bool t.eq, .int .i64 t.a, .int .i64 t.b, .slice X1 n1 d1, .slice X2 n2 d2, .slice X3 n3 d3, .slice X4 n4 d4] tC)).alloc (.cells #[.slice none 0 0, .slice none 0 0] tAs))) := Lib.hid bel
  have hz : (((w.alloc (.cells #[.slice A1 a.facts.length c1, .slice (some ⟨b, o, none⟩) a.atoms.length c2] tAs)).alloc (.cells #[.int .i64 3, .int .i64 A, .int .i64 B, .bool t.eq, .int .i64 t.a, .int .i64 t.b, .slice X1 n1 d1, .slice X2 n2 d2, .slice X3 n3 d3, .slice X4 n4 d4] tC)).alloc (.cells #[.slice none 0 0, .slice none 0 0] tAs)).heap.size = w.heap.size + 3 := by simp
  go_upto_region 5 with fail
  generalize (((w.alloc (.cells #[.slice A1 a.facts.length c1, .slice (some ⟨b, o, none⟩) a.atoms.length c2] tAs)).alloc (.cells #[.int .i64 3, .int .i64 A, .int .i64 B, .bool t.eq, .int .i64 t.a, .int .i64 t.b, .slice X1 n1 d1, .slice X2 n2 d2, .slice X3 n3 d3, .slice X4 n4 d4] tC)).alloc (.cells #[.slice none 0 0, .slice none 0 0] tAs)) = W at k3 k4 k6 HB hz ⊢
  have hdz : W.drew.heap.size = W.heap.size := rfl
  (replace qk3 := k3.cell; replace rk3 := k3.frozen; replace lk3 := k3.lt; replace qk4 := k4.cell; replace rk4 := k4.frozen; replace lk4 := k4.lt; replace qk6 := k6.cell; replace rk6 := k6.frozen; replace lk6 := k6.lt)
  go_wp2_with fail
  refine (c_impl_copyAssertion _ a _ (hV.out.V.below HB.out)).mono ?_
  rintro e w1 ⟨r, rfl, oC, hB1⟩
  obtain ⟨fv, av, rfl, of, oa⟩ := oC
  obtain ⟨F, f, rfl, -⟩ := of.reads
  obtain ⟨G, g, rfl, -⟩ := oa.reads
  obtain ⟨gb, cur, -, rfl, hg, kg, hsz, x0, x1, x2, -⟩ := oa.open_ (k := 0) h0
  simp only [Nat.zero_mul, Nat.zero_add] at x0 x1 x2
  have k41 := k4.next hB1
  have k61 := k6.next hB1
  have HB1 := Lib.hid (bgo HB.out hB1)
  have hz1 := hB1.size
  have OF := Lib.hid of
  have OA := Lib.hid oa
  clear of oa hB1 k3 k4 k6 qk3 rk3 lk3 qk4 rk4 lk4 qk6 rk6 lk6 HB x0 x1
  have hgl := kg.lt
  have rg := kg.frozen
  have q2 := (kg.cell 2).trans x2
  (replace qk41 := k41.cell; replace rk41 := k41.frozen; replace lk41 := k41.lt; replace qk61 := k61.cell; replace rk61 := k61.frozen; replace lk61 := k61.lt)
  go_wp2_with fail
  have hne : gb ≠ w.heap.size + 1 + 1 := fun e => by omega
  have k62 := k61.far (p := ⟨gb, 2, none⟩) (fun e => hne e.symm) (.int .i64 B)
  have OA1 := OA.out.storeB h0 B E0.out
  have OF1 := OF.out.setT kg (by decide) 2 (.int .i64 B)
  have z6 := (((k62.set_ 0 (.slice F a.facts.length f)).set_ 1 (.slice (some ⟨gb, 0, none⟩) a.atoms.length g)).alloc (.cells #[.slice F a.facts.length f, .slice (some ⟨gb, 0, none⟩) a.atoms.length g] tAs)).cell
  have OX : AsnO (w1.setCell ⟨gb, 2, none⟩ (.int .i64 B)) W.heap.size (.agg #[.slice F a.facts.length f, .slice (some ⟨gb, 0, none⟩) a.atoms.length g]) (storeX a B) := by
    refine ⟨_, _, rfl, OF1, ?_⟩
    exact OA1
  have HB2 := (HB1.out.setCell (p := ⟨gb, 2, none⟩) (by simp only; omega) (.int .i64 B))
  refine bodyPost_ret (v := .tuple #[.agg #[.slice F a.facts.length f, .slice (some ⟨gb, 0, none⟩) a.atoms.length g], .bool true]) (by simp [results, Tryz.results164, go_sem, z6]) rfl ⟨_, by rw [E.out]; rfl, ?_, ?_⟩
  · rw [E.out]
    refine OptO.some ((AsnO.setT2 OX k62 _ _).lower (by omega) |>.below bel)
  · exact bbox (((HB2.setCell (p := ⟨w.heap.size + 1 + 1, 0, none⟩) (by simp only; omega) _).setCell (p := ⟨w.heap.size + 1 + 1, 1, none⟩) (by simp only; omega) _)) _
set_option maxRecDepth 100000 in
set_option maxHeartbeats 3200000 in
theorem c_acc5 {lo hi : Nat} (v : Value) (a : Asn) (k A B : Int) (t : Fct) (X1 X2 X3 X4 : Option Addr) (n1 n2 n3 n4 d1 d2 d3 d4 K0 : Nat) (w : World) (h : AsnC w lo hi v a) (h0 : 0 < a.atoms.length) (hl : a.facts.length ≤ 1000 ∧ a.atoms.length ≤ 1000) (hK0 : K0 < 512) (hk2 : ¬ k = 2) (hk3 : ¬ k = 3) :
    Calls Tryz.prog 164 #[v, .agg #[.int .i64 k, .int .i64 A, .int .i64 B, .bool t.eq, .int .i64 t.a, .int .i64 t.b, .slice X1 n1 d1, .slice X2 n2 d2, .slice X3 n3 d3, .slice X4 n4 d4], .int .u16 K0] w fun e w' => ∃ r, e = .returned (.tuple #[r, .bool (accF k A B a K0).isSome]) ∧ OptO w' w.heap.size r (accF k A B a K0) ∧ Below w.heap.size w w' := by
  have hV := Lib.hid h
  obtain ⟨A1, c1, A2, c2, rfl, h1, h2, -⟩ := h
  have H1 := Lib.hid h1
  have H2 := Lib.hid h2
  obtain ⟨b, o, rfl, g0, g1, g2⟩ := h2.at h0
  have E0 : Hid (a.atoms[0]? = some (head0 a)) := Lib.hid (by unfold head0; rw [List.getElem?_eq_getElem h0]; rfl)
  have e0 : a.atoms[0] = head0 a := by unfold head0; rw [List.getElem?_eq_getElem h0]; rfl
  obtain ⟨xb, hxb⟩ : ∃ x, x = (head0 a).b := ⟨_, rfl⟩
  rw [e0] at g0 g1 g2
  rw [← hxb] at g2
  replace hxb := Lib.hid hxb
  have hbl := block_lt_of_cell g2
  simp only [Nat.zero_mul, Nat.add_zero] at hbl g2
  have hii : (0 : Int) < (a.atoms.length : Int) := by omega
  clear h1 h2 g0 g1 e0
  have E : Hid (accF k A B a K0 = some (freeX a)) := Lib.hid (by unfold accF; rw [if_neg hk2, if_neg hk3])
  have b2 : (k == 2) = false := beq_false_of_ne hk2
  have b3 : (k == 3) = false := beq_false_of_ne hk3
  clear hk2 hk3
  go_enter Tryz.func164, Tryz.ntmps164
  have k3 : Blk (((w.alloc (.cells #[.slice A1 a.facts.length c1, .slice (some ⟨b, o, none⟩) a.atoms.length c2] tAs)).alloc (.cells #[.int .i64 k, .int .i64 A, .int .i64 B, .bool t.eq, .int .i64 t.a, .int .i64 t.b, .slice X1 n1 d1, .slice X2 n2 d2, .slice X3 n3 d3, .slice X4 n4 d4] tC)).alloc (.cells #[.slice none 0 0, .slice none 0 0] tAs)) w.heap.size tAs #[.slice A1 a.facts.length c1, .slice (some ⟨b, o, none⟩) a.atoms.length c2] := blks
  have k4 : Blk (((w.alloc (.cells #[.slice A1 a.facts.length c1, .slice (some ⟨b, o, none⟩) a.atoms.length c2] tAs)).alloc (.cells #[.int .i64 k, .int .i64 A, .int .i64 B, .bool t.eq, .int .i64 t.a, .int .i64 t.b, .slice X1 n1 d1, .slice X2 n2 d2, .slice X3 n3 d3, .slice X4 n4 d4] tC)).alloc (.cells #[.slice none 0 0, .slice none 0 0] tAs)) (w.heap.size + 1) tC #[.int .i64 k, .int .i64 A, .int .i64 B, .bool t.eq, .int .i64 t.a, .int .i64 t.b, .slice X1 n1 d1, .slice X2 n2 d2, .slice X3 n3 d3, .slice X4 n4 d4] := blks
  have k6 : Blk (((w.alloc (.cells #[.slice A1 a.facts.length c1, .slice (some ⟨b, o, none⟩) a.atoms.length c2] tAs)).alloc (.cells #[.int .i64 k, .int .i64 A, .int .i64 B, .bool t.eq, .int .i64 t.a, .int .i64 t.b, .slice X1 n1 d1, .slice X2 n2 d2, .slice X3 n3 d3, .slice X4 n4 d4] tC)).alloc (.cells #[.slice none 0 0, .slice none 0 0] tAs)) (w.heap.size + 1 + 1) tAs #[.slice none 0 0, .slice none 0 0] := blks
  have HB : Hid (Below w.heap.size w (((w.alloc (.cells #[.slice A1 a.facts.length c1, .slice (some ⟨b, o, none⟩) a.atoms.length c2] tAs)).alloc (.cells #[.int .i64 k, .int .i64 A, .int .i64 B, .bool t.eq, .int .i64 t.a, .int .i64 t.b, .slice X1 n1 d1, .slice X2 n2 d2, .slice X3 n3 d3, .slice X4 n4 d4] tC)).alloc (.cells #[.slice none 0 0, .slice none 0 0] tAs))) := Lib.hid bel
  have hz : (((w.alloc (.cells #[.slice A1 a.facts.length c1, .slice (some ⟨b, o, none⟩) a.atoms.length c2] tAs)).alloc (.cells #[.int .i64 k, .int .i64 A, .int .i64 B, .bool t.eq, .int .i64 t.a, .int .i64 t.b, .slice X1 n1 d1, .slice X2 n2 d2, .slice X3 n3 d3, .slice X4 n4 d4] tC)).alloc (.cells #[.slice none 0 0, .slice none 0 0] tAs)).heap.size = w.heap.size + 3 := by simp
  go_upto_region 8 with fail
  generalize (((w.alloc (.cells #[.slice A1 a.facts.length c1, .slice (some ⟨b, o, none⟩) a.atoms.length c2] tAs)).alloc (.cells #[.int .i64 k, .int .i64 A, .int .i64 B, .bool t.eq, .int .i64 t.a, .int .i64 t.b, .slice X1 n1 d1, .slice X2 n2 d2, .slice X3 n3 d3, .slice X4 n4 d4] tC)).alloc (.cells #[.slice none 0 0, .slice none 0 0] tAs)) = W at k3 k4 k6 HB hz ⊢
  have hdz : W.drew.heap.size = W.heap.size := rfl
  (replace qk3 := k3.cell; replace rk3 := k3.frozen; replace lk3 := k3.lt; replace qk4 := k4.cell; replace rk4 := k4.frozen; replace lk4 := k4.lt; replace qk6 := k6.cell; replace rk6 := k6.frozen; replace lk6 := k6.lt)
  go_wp2_with fail
  clear qk3 rk3 lk3 qk4 rk4 lk4 qk6 rk6 lk6
  refine wp_region_noPanic ?_
  refine wp_region_held_drew (S := (fun w' => (∀ i, w'.cell? ⟨w.heap.size, i, none⟩ = #[.slice A1 a.facts.length c1, .slice (some ⟨b, o, none⟩) a.atoms.length c2][i]?))) (by kernel_rfl) (k3.drew.cell) (fun hHeld => ?_)
  refine wpAnyH_take (i := 0) (v := ?_) rfl (by kernel_rfl) (by kernel_rfl) (by kernel_rfl) (fun _ _ _ h => h) (Or.inl ⟨by rfl, fun w hSw => ?_⟩) hHeld ?_
  rotate_left
  · ((try dsimp only at hSw); go_split_ands; go_simp; (try with_reducible rfl))
  try simp only [Act.put, List.getElem_toArray, List.getElem_cons_zero, List.getElem_cons_succ, List.setIfInBounds_toArray, List.set_cons_zero, List.set_cons_succ]
  refine wpAnyH_take (i := 1) (v := ?_) rfl (by kernel_rfl) (by kernel_rfl) (by kernel_rfl) (fun _ _ _ h => h) (Or.inl ⟨by rfl, fun w hSw => ?_⟩) hHeld ?_
  rotate_left
  · ((try dsimp only at hSw); go_split_ands; go_simp; (try with_reducible rfl))
  try simp only [Act.put, List.getElem_toArray, List.getElem_cons_zero, List.getElem_cons_succ, List.setIfInBounds_toArray, List.set_cons_zero, List.set_cons_succ]
  refine wpAnyH_take (i := 3) (v := ?_) rfl (by kernel_rfl) (by kernel_rfl) (by kernel_rfl) (fun _ _ _ h => h) (Or.inl ⟨by rfl, fun w hSw => ?_⟩) hHeld ?_
  rotate_left
  · ((try dsimp only at hSw); go_split_ands; go_simp; (try with_reducible rfl))
  try simp only [Act.put, List.getElem_toArray, List.getElem_cons_zero, List.getElem_cons_succ, List.setIfInBounds_toArray, List.set_cons_zero, List.set_cons_succ]
  refine wpAnyH_ready (rs := [2]) (by kernel_rfl) (by simp) ?_
  refine AllReadyH.cons rfl (fun K hK => ?_) AllReadyH.nil
  try simp only [List.getElem_toArray, List.getElem_cons_zero, List.getElem_cons_succ]
  (go_simp; refine (c_joinF A1 none c1 0 a.facts [] _ (H1.out.below HB.out.drew) (Rd.nil _ 0 0 _ _) (by simp; omega)).mono ?_; rintro e w1 ⟨r, rfl, oF, hB1⟩; rw [List.append_nil] at oF; obtain ⟨F, f, rfl, -⟩ := oF.reads; replace hB1 : Below W.heap.size W w1 := (Below.refl _ _).drew.trans hB1; have k31 := k3.next hB1; have k61 := k6.next hB1; have HB1 := Lib.hid (bgo HB.out hB1); have OF := Lib.hid (oF.lower (base' := w.heap.size) (by omega)); have hz1 := hB1.size; clear hB1 oF)
  refine hK.out _ _ (k31.cell) (fun hHeldN => ?_)
  clear hHeld hK K
  have hHeld := hHeldN
  clear hHeldN
  try simp only [Act.put, List.getElem_toArray, List.getElem_cons_zero, List.getElem_cons_succ, List.setIfInBounds_toArray, List.set_cons_zero, List.set_cons_succ]
  refine wpAnyH_ready (rs := [4]) (by kernel_rfl) (by simp) ?_
  refine AllReadyH.cons rfl (fun K hK => ?_) AllReadyH.nil
  try simp only [List.getElem_toArray, List.getElem_cons_zero, List.getElem_cons_succ]
  (go_simp; refine (c_without0 _ a _ (hV.out.below HB1.out) h0).mono ?_; rintro e w2 ⟨G, g, rfl, oA, hB2⟩; have k32 := k31.next hB2; have k62 := k61.next hB2; have HB2 := Lib.hid (bgo HB1.out hB2); have OF2 := Lib.hid (OF.out.below hB2); have OA := Lib.hid (oA.lower (base' := w.heap.size) (by omega)); have hz2 := hB2.size; clear hB2 oA)
  refine hK.out _ _ (k32.cell) (fun hHeldN => ?_)
  clear hHeld hK K
  have hHeld := hHeldN
  clear hHeldN
  try simp only [Act.put, List.getElem_toArray, List.getElem_cons_zero, List.getElem_cons_succ, List.setIfInBounds_toArray, List.set_cons_zero, List.set_cons_succ]
  refine wpAnyH_take (i := 5) (v := ?_) rfl (by kernel_rfl) (by kernel_rfl) (by kernel_rfl) (fun _ _ _ h => h) (Or.inl ⟨by rfl, fun w hSw => ?_⟩) hHeld ?_
  rotate_left
  · ((try dsimp only at hSw); go_split_ands; go_simp; (try with_reducible rfl))
  try simp only [Act.put, List.getElem_toArray, List.getElem_cons_zero, List.getElem_cons_succ, List.setIfInBounds_toArray, List.set_cons_zero, List.set_cons_succ]
  have l62 := k62.lt
  have q62 := k62.cell
  have r62 := k62.frozen
  refine wpAnyH_ready (rs := [6]) (by kernel_rfl) (by simp) ?_
  refine AllReadyH.cons rfl (fun K hK => ?_) AllReadyH.nil
  try simp only [List.getElem_toArray, List.getElem_cons_zero, List.getElem_cons_succ]
  go_simp
  refine hK.out _ _ (((k32.far (p := ⟨w.heap.size + 1 + 1, 0, none⟩) (by simp only; omega) _).far (p := ⟨w.heap.size + 1 + 1, 1, none⟩) (by simp only; omega) _).cell) (fun hHeldN => ?_)
  clear hHeld hK K
  have hHeld := hHeldN
  clear hHeldN
  try simp only [Act.put, List.getElem_toArray, List.getElem_cons_zero, List.getElem_cons_succ, List.setIfInBounds_toArray, List.set_cons_zero, List.set_cons_succ]
  refine wpAnyH_take (i := 7) (v := ?_) rfl (by kernel_rfl) (by kernel_rfl) (by kernel_rfl) (fun _ _ _ h => h) (Or.inl ⟨by rfl, fun w hSw => ?_⟩) hHeld ?_
  rotate_left
  · ((try dsimp only at hSw); go_split_ands; go_simp; (try with_reducible rfl))
  try simp only [Act.put, List.getElem_toArray, List.getElem_cons_zero, List.getElem_cons_succ, List.setIfInBounds_toArray, List.set_cons_zero, List.set_cons_succ]
  refine wpAnyH_done (by kernel_rfl) ?_ _
  refine NoPanic.normal ?_
  go_wp2_with fail
  have z6 := ((k62.set_ 0 (.slice F a.facts.length f)).set_ 1 (.slice G (freeX a).atoms.length g)).cell
  refine bodyPost_ret (v := .tuple #[.agg #[.slice F a.facts.length f, .slice G (freeX a).atoms.length g], .bool true]) (by simp [results, Tryz.results164, go_sem, z6]) rfl ⟨_, by rw [E.out]; rfl, ?_, ?_⟩
  · rw [E.out]
    exact OptO.some (AsnO.setT2 (⟨_, _, rfl, OF2.out, OA.out⟩ : AsnO w2 w.heap.size (.agg #[.slice F a.facts.length f, .slice G (freeX a).atoms.length g]) (freeX a)) k62 _ _)
  · exact (HB2.out.setCell (p := ⟨w.heap.size + 1 + 1, 0, none⟩) (by simp only; omega) _).setCell (p := ⟨w.heap.size + 1 + 1, 1, none⟩) (by simp only; omega) _
theorem c_impl_accessed {lo hi : Nat} (v : Value) (a : Asn) (k A B : Int) (t : Fct) (X1 X2 X3 X4 : Option Addr) (n1 n2 n3 n4 d1 d2 d3 d4 K0 : Nat) (w : World) (h : AsnC w lo hi v a) (h0 : 0 < a.atoms.length) (hl : a.facts.length ≤ 1000 ∧ a.atoms.length ≤ 1000) (hK0 : K0 < 512) (hA : k = 2 → isTermB A = true) :
    Calls Tryz.prog 164 #[v, .agg #[.int .i64 k, .int .i64 A, .int .i64 B, .bool t.eq, .int .i64 t.a, .int .i64 t.b, .slice X1 n1 d1, .slice X2 n2 d2, .slice X3 n3 d3, .slice X4 n4 d4], .int .u16 K0] w fun e w' => ∃ r, e = .returned (.tuple #[r, .bool (accF k A B a K0).isSome]) ∧ OptO w' w.heap.size r (accF k A B a K0) ∧ Below w.heap.size w w' := by
  by_cases h2 : k = 2
  · subst h2
    exact c_acc2 v a A B t X1 X2 X3 X4 n1 n2 n3 n4 d1 d2 d3 d4 K0 w h h0 hl hK0 (hA rfl)
  · by_cases h3 : k = 3
    · subst h3
      exact c_acc3 v a A B t X1 X2 X3 X4 n1 n2 n3 n4 d1 d2 d3 d4 K0 w h h0 hl hK0
    · exact c_acc5 v a k A B t X1 X2 X3 X4 n1 n2 n3 n4 d1 d2 d3 d4 K0 w h h0 hl hK0 h2 h3
--@
end Go.Proofs.YtlmjjflalmegfaaGreat
