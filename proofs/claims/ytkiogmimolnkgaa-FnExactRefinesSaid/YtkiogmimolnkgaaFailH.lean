/- Contracts: the spec's FailingCase; Entails. -/
import Derived.Test.YtkiogmimolnkgaaFailG
namespace Go.Proofs.Ytkiogmimolnkgaa
open Go Go.RowKit Go.Proofs
attribute [local go_sem ↓] Go.wp_at_zero Go.wp_at_succ

--@ spec.l6Fails
theorem termsL_star (a b : Asn) (t : Int) : t ∈ termsL (starA a b) ↔ t ∈ termsL a ∨ t ∈ termsL b := by
  simp only [termsL, starA, List.flatMap_append, List.mem_append]
  constructor
  · rintro ((h | h) | (h | h)) <;> simp [h]
  · rintro ((h | h) | (h | h)) <;> simp [h]
theorem seekF_fail {a b : Asn} (ha : a.valid = true) (hb : b.valid = true) : (!(seekF a b (tset (termsL (starA a b))) 8 opened).isEmpty) = (failF a b).isSome ∧ firstI (seekF a b (tset (termsL (starA a b))) 8 opened) = (failF a b).getD [] := by
  have e : seek a (tset (termsL (starA a b))) 8 opened = cases a (caseS a (tset (termsL b))) := by
    refine seek_caseS ha _ _ fun j h1 h2 => ?_
    rw [caseS_bit, tset_bit, tset_bit]
    have hj : ¬ j = 0 := by omega
    rw [decide_eq_false hj, Bool.or_false, ← Bool.decide_or, decide_eq_decide, termsL_star]
    constructor
    · rintro ⟨g, h | h⟩
      · exact Or.inl ⟨g, h⟩
      · exact Or.inr ⟨g, h⟩
    · rintro (⟨g, h⟩ | ⟨g, h⟩)
      · exact ⟨g, Or.inl h⟩
      · exact ⟨g, Or.inr h⟩
  unfold seekF firstI
  rw [e, ← failF_eq hb]
  cases (cases a (caseS a (tset (termsL b)))).filter fun d => !caseB a b d <;> exact ⟨rfl, rfl⟩
theorem termsL_star_ok {a b : Asn} (ha : a.valid = true) (hb : b.valid = true) : ∀ t ∈ termsL (starA a b), isTermB t = true := by
  intro t ht
  rcases (termsL_star a b t).1 ht with h | h
  · exact termsL_ok ha t h
  · exact termsL_ok hb t h
set_option maxRecDepth 100000 in
set_option maxHeartbeats 3200000 in
theorem c_spec_l6Fails {lo hi lo' hi' : Nat} (v v' : Value) (a b : Asn) (w : World) (h : AsnV w lo hi v a) (h' : AsnV w lo' hi' v' b) (ha : a.valid = true) (hb : b.valid = true) :
    Calls Try.prog 73 #[v, v'] w fun e w' => ∃ r, e = .returned (.tuple #[r, .bool (failF a b).isSome]) ∧ IntsO w' w.heap.size r ((failF a b).getD []) ∧ Below w.heap.size w w' := by
  have hV := Lib.hid h
  have hV' := Lib.hid h'
  have HA := Lib.hid ha
  have HB := Lib.hid hb
  have HT := Lib.hid (termsL_star_ok ha hb)
  have HS := Lib.hid (seekF_fail ha hb)
  have HOP := Lib.hid openedB
  have HLA := Lib.hid (valid_len ha)
  have HLB := Lib.hid (valid_len hb)
  obtain ⟨A1, c1, A2, c2, rfl, -, -⟩ := h
  obtain ⟨A3, c3, A4, c4, rfl, -, -⟩ := h'
  clear ha hb
  go_enter Try.func73, Try.ntmps73
  have k0 : Blk ((w.alloc (.cells #[.slice A1 a.facts.length c1, .slice A2 a.atoms.length c2] tAs)).alloc (.cells #[.slice A3 b.facts.length c3, .slice A4 b.atoms.length c4] tAs)) w.heap.size tAs #[.slice A1 a.facts.length c1, .slice A2 a.atoms.length c2] := (by repeat (first | (with_reducible assumption) | (with_reducible exact Blk.new _ _ _) | ((with_reducible apply Blk.far); (case hp => (first | exact Nat.le_refl _ | (simp; done) | (simp; omega) | (simp only; omega) | omega))) | (with_reducible apply Blk.set_) | ((with_reducible refine Blk.newE ?_); (simp; done)) | (with_reducible apply Blk.alloc) | (with_reducible apply Blk.drew) | (with_reducible apply Blk.drewN)))
  have k1 : Blk ((w.alloc (.cells #[.slice A1 a.facts.length c1, .slice A2 a.atoms.length c2] tAs)).alloc (.cells #[.slice A3 b.facts.length c3, .slice A4 b.atoms.length c4] tAs)) (w.heap.size + 1) tAs #[.slice A3 b.facts.length c3, .slice A4 b.atoms.length c4] := (by repeat (first | (with_reducible assumption) | (with_reducible exact Blk.new _ _ _) | ((with_reducible apply Blk.far); (case hp => (first | exact Nat.le_refl _ | (simp; done) | (simp; omega) | (simp only; omega) | omega))) | (with_reducible apply Blk.set_) | ((with_reducible refine Blk.newE ?_); (simp; done)) | (with_reducible apply Blk.alloc) | (with_reducible apply Blk.drew) | (with_reducible apply Blk.drewN)))
  go_wp2_with fail
  refine wp_region_noPanic ?_
  refine wp_region_held_drew (S := (fun w' => (∀ i, w'.cell? ⟨w.heap.size, i, none⟩ = #[.slice A1 a.facts.length c1, .slice A2 a.atoms.length c2][i]?) ∧ (∀ i, w'.cell? ⟨w.heap.size + 1, i, none⟩ = #[.slice A3 b.facts.length c3, .slice A4 b.atoms.length c4][i]?))) (by kernel_rfl) (⟨Blk.cell (by repeat (first | (with_reducible assumption) | (with_reducible exact Blk.new _ _ _) | ((with_reducible apply Blk.far); (case hp => (first | exact Nat.le_refl _ | (simp; done) | (simp; omega) | (simp only; omega) | omega))) | (with_reducible apply Blk.set_) | ((with_reducible refine Blk.newE ?_); (simp; done)) | (with_reducible apply Blk.alloc) | (with_reducible apply Blk.drew) | (with_reducible apply Blk.drewN))), Blk.cell (by repeat (first | (with_reducible assumption) | (with_reducible exact Blk.new _ _ _) | ((with_reducible apply Blk.far); (case hp => (first | exact Nat.le_refl _ | (simp; done) | (simp; omega) | (simp only; omega) | omega))) | (with_reducible apply Blk.set_) | ((with_reducible refine Blk.newE ?_); (simp; done)) | (with_reducible apply Blk.alloc) | (with_reducible apply Blk.drew) | (with_reducible apply Blk.drewN)))⟩) (fun hHeld => ?_)
  refine wpAnyH_take (i := 0) (v := ?_) rfl (by kernel_rfl) (by kernel_rfl) (by kernel_rfl) (fun _ _ _ h => h) (Or.inl ⟨by rfl, fun w hSw => ?_⟩) hHeld ?_
  rotate_left
  · ((try dsimp only at hSw); go_split_ands; go_simp; (try with_reducible rfl))
  try simp only [Act.put, List.getElem_toArray, List.getElem_cons_zero, List.getElem_cons_succ, List.setIfInBounds_toArray, List.set_cons_zero, List.set_cons_succ]
  refine wpAnyH_take (i := 1) (v := ?_) rfl (by kernel_rfl) (by kernel_rfl) (by kernel_rfl) (fun _ _ _ h => h) (Or.inl ⟨by rfl, fun w hSw => ?_⟩) hHeld ?_
  rotate_left
  · ((try dsimp only at hSw); go_split_ands; go_simp; (try with_reducible rfl))
  try simp only [Act.put, List.getElem_toArray, List.getElem_cons_zero, List.getElem_cons_succ, List.setIfInBounds_toArray, List.set_cons_zero, List.set_cons_succ]
  refine wpAnyH_take (i := 2) (v := ?_) rfl (by kernel_rfl) (by kernel_rfl) (by kernel_rfl) (fun _ _ _ h => h) (Or.inl ⟨by rfl, fun w hSw => ?_⟩) hHeld ?_
  rotate_left
  · ((try dsimp only at hSw); go_split_ands; go_simp; (try with_reducible rfl))
  try simp only [Act.put, List.getElem_toArray, List.getElem_cons_zero, List.getElem_cons_succ, List.setIfInBounds_toArray, List.set_cons_zero, List.set_cons_succ]
  refine wpAnyH_take (i := 3) (v := ?_) rfl (by kernel_rfl) (by kernel_rfl) (by kernel_rfl) (fun _ _ _ h => h) (Or.inl ⟨by rfl, fun w hSw => ?_⟩) hHeld ?_
  rotate_left
  · ((try dsimp only at hSw); go_split_ands; go_simp; (try with_reducible rfl))
  try simp only [Act.put, List.getElem_toArray, List.getElem_cons_zero, List.getElem_cons_succ, List.setIfInBounds_toArray, List.set_cons_zero, List.set_cons_succ]
  refine wpAnyH_ready (rs := [4]) (by kernel_rfl) (by simp) ?_
  refine AllReadyH.cons rfl (fun K hK => ?_) AllReadyH.nil
  try simp only [List.getElem_toArray, List.getElem_cons_zero, List.getElem_cons_succ]
  (go_simp; refine (c_spec_l6Both _ _ a b _ (hV.out.below (by repeat (first | (with_reducible exact Below.refl _ _) | (with_reducible assumption) | (with_reducible apply bbox) | ((with_reducible apply Below.setCell); (case hp => (first | exact Nat.le_refl _ | (simp; done) | (simp; omega) | (simp only; omega) | omega))) | (with_reducible apply Below.drew) | (with_reducible apply below_drewN)))) (hV'.out.below (by repeat (first | (with_reducible exact Below.refl _ _) | (with_reducible assumption) | (with_reducible apply bbox) | ((with_reducible apply Below.setCell); (case hp => (first | exact Nat.le_refl _ | (simp; done) | (simp; omega) | (simp only; omega) | omega))) | (with_reducible apply Below.drew) | (with_reducible apply below_drewN)))) (by have := HLA.out; have := HLB.out; omega) (by have := HLA.out; have := HLB.out; omega) HT.out).mono ?_; rintro e w3 ⟨r3, rfl, o3, hB3⟩; obtain ⟨Tb, ct, rfl, fT⟩ := o3.reads; rw [flagsOf_length]; have hB := bgo (w := w) (by repeat (first | (with_reducible exact Below.refl _ _) | (with_reducible assumption) | (with_reducible apply bbox) | ((with_reducible apply Below.setCell); (case hp => (first | exact Nat.le_refl _ | (simp; done) | (simp; omega) | (simp only; omega) | omega))) | (with_reducible apply Below.drew) | (with_reducible apply below_drewN))) hB3; replace k0 := Blk.next (g := w.heap.size) (by repeat (first | (with_reducible assumption) | (with_reducible exact Blk.new _ _ _) | ((with_reducible apply Blk.far); (case hp => (first | exact Nat.le_refl _ | (simp; done) | (simp; omega) | (simp only; omega) | omega))) | (with_reducible apply Blk.set_) | ((with_reducible refine Blk.newE ?_); (simp; done)) | (with_reducible apply Blk.alloc) | (with_reducible apply Blk.drew) | (with_reducible apply Blk.drewN))) hB3; replace k1 := Blk.next (g := w.heap.size + 1) (by repeat (first | (with_reducible assumption) | (with_reducible exact Blk.new _ _ _) | ((with_reducible apply Blk.far); (case hp => (first | exact Nat.le_refl _ | (simp; done) | (simp; omega) | (simp only; omega) | omega))) | (with_reducible apply Blk.set_) | ((with_reducible refine Blk.newE ?_); (simp; done)) | (with_reducible apply Blk.alloc) | (with_reducible apply Blk.drew) | (with_reducible apply Blk.drewN))) hB3; clear o3)
  refine hK.out _ _ (⟨Blk.cell (by repeat (first | (with_reducible assumption) | (with_reducible exact Blk.new _ _ _) | ((with_reducible apply Blk.far); (case hp => (first | exact Nat.le_refl _ | (simp; done) | (simp; omega) | (simp only; omega) | omega))) | (with_reducible apply Blk.set_) | ((with_reducible refine Blk.newE ?_); (simp; done)) | (with_reducible apply Blk.alloc) | (with_reducible apply Blk.drew) | (with_reducible apply Blk.drewN))), Blk.cell (by repeat (first | (with_reducible assumption) | (with_reducible exact Blk.new _ _ _) | ((with_reducible apply Blk.far); (case hp => (first | exact Nat.le_refl _ | (simp; done) | (simp; omega) | (simp only; omega) | omega))) | (with_reducible apply Blk.set_) | ((with_reducible refine Blk.newE ?_); (simp; done)) | (with_reducible apply Blk.alloc) | (with_reducible apply Blk.drew) | (with_reducible apply Blk.drewN)))⟩) (fun hHeldN => ?_)
  clear hHeld hK K
  have hHeld := hHeldN
  clear hHeldN
  try simp only [Act.put, List.getElem_toArray, List.getElem_cons_zero, List.getElem_cons_succ, List.setIfInBounds_toArray, List.set_cons_zero, List.set_cons_succ]
  refine wpAnyH_ready (rs := [5]) (by kernel_rfl) (by simp) ?_
  refine AllReadyH.cons rfl (fun K hK => ?_) AllReadyH.nil
  try simp only [List.getElem_toArray, List.getElem_cons_zero, List.getElem_cons_succ]
  (go_simp; refine (c_spec_l5Open _).mono ?_; rintro e w4 ⟨r4, rfl, o4, hB4⟩; obtain ⟨Cb, cc, rfl, fC⟩ := o4.reads; have hB2 := bgo (w := w) (by repeat (first | (with_reducible exact Below.refl _ _) | (with_reducible assumption) | (with_reducible apply bbox) | ((with_reducible apply Below.setCell); (case hp => (first | exact Nat.le_refl _ | (simp; done) | (simp; omega) | (simp only; omega) | omega))) | (with_reducible apply Below.drew) | (with_reducible apply below_drewN))) hB4; have fT4 := fT.below hB4; replace k0 := Blk.next (g := w.heap.size) (by repeat (first | (with_reducible assumption) | (with_reducible exact Blk.new _ _ _) | ((with_reducible apply Blk.far); (case hp => (first | exact Nat.le_refl _ | (simp; done) | (simp; omega) | (simp only; omega) | omega))) | (with_reducible apply Blk.set_) | ((with_reducible refine Blk.newE ?_); (simp; done)) | (with_reducible apply Blk.alloc) | (with_reducible apply Blk.drew) | (with_reducible apply Blk.drewN))) hB4; replace k1 := Blk.next (g := w.heap.size + 1) (by repeat (first | (with_reducible assumption) | (with_reducible exact Blk.new _ _ _) | ((with_reducible apply Blk.far); (case hp => (first | exact Nat.le_refl _ | (simp; done) | (simp; omega) | (simp only; omega) | omega))) | (with_reducible apply Blk.set_) | ((with_reducible refine Blk.newE ?_); (simp; done)) | (with_reducible apply Blk.alloc) | (with_reducible apply Blk.drew) | (with_reducible apply Blk.drewN))) hB4; clear o4)
  refine hK.out _ _ (⟨Blk.cell (by repeat (first | (with_reducible assumption) | (with_reducible exact Blk.new _ _ _) | ((with_reducible apply Blk.far); (case hp => (first | exact Nat.le_refl _ | (simp; done) | (simp; omega) | (simp only; omega) | omega))) | (with_reducible apply Blk.set_) | ((with_reducible refine Blk.newE ?_); (simp; done)) | (with_reducible apply Blk.alloc) | (with_reducible apply Blk.drew) | (with_reducible apply Blk.drewN))), Blk.cell (by repeat (first | (with_reducible assumption) | (with_reducible exact Blk.new _ _ _) | ((with_reducible apply Blk.far); (case hp => (first | exact Nat.le_refl _ | (simp; done) | (simp; omega) | (simp only; omega) | omega))) | (with_reducible apply Blk.set_) | ((with_reducible refine Blk.newE ?_); (simp; done)) | (with_reducible apply Blk.alloc) | (with_reducible apply Blk.drew) | (with_reducible apply Blk.drewN)))⟩) (fun hHeldN => ?_)
  clear hHeld hK K
  have hHeld := hHeldN
  clear hHeldN
  try simp only [Act.put, List.getElem_toArray, List.getElem_cons_zero, List.getElem_cons_succ, List.setIfInBounds_toArray, List.set_cons_zero, List.set_cons_succ]
  refine wpAnyH_ready (rs := [6]) (by kernel_rfl) (by simp) ?_
  refine AllReadyH.cons rfl (fun K hK => ?_) AllReadyH.nil
  try simp only [List.getElem_toArray, List.getElem_cons_zero, List.getElem_cons_succ]
  (go_simp; refine (c_spec_l6Seek Tb ct HA.out HB.out 8 opened Cb cc _ _ _ (by omega) rfl (HOP.out.2 _) HOP.out.1 (hV.out.below (by repeat (first | (with_reducible exact Below.refl _ _) | (with_reducible assumption) | (with_reducible apply bbox) | ((with_reducible apply Below.setCell); (case hp => (first | exact Nat.le_refl _ | (simp; done) | (simp; omega) | (simp only; omega) | omega))) | (with_reducible apply Below.drew) | (with_reducible apply below_drewN)))) (hV'.out.below (by repeat (first | (with_reducible exact Below.refl _ _) | (with_reducible assumption) | (with_reducible apply bbox) | ((with_reducible apply Below.setCell); (case hp => (first | exact Nat.le_refl _ | (simp; done) | (simp; omega) | (simp only; omega) | omega))) | (with_reducible apply Below.drew) | (with_reducible apply below_drewN)))) (fT4.below (by repeat (first | (with_reducible exact Below.refl _ _) | (with_reducible assumption) | (with_reducible apply bbox) | ((with_reducible apply Below.setCell); (case hp => (first | exact Nat.le_refl _ | (simp; done) | (simp; omega) | (simp only; omega) | omega))) | (with_reducible apply Below.drew) | (with_reducible apply below_drewN)))) (fC.below (by repeat (first | (with_reducible exact Below.refl _ _) | (with_reducible assumption) | (with_reducible apply bbox) | ((with_reducible apply Below.setCell); (case hp => (first | exact Nat.le_refl _ | (simp; done) | (simp; omega) | (simp only; omega) | omega))) | (with_reducible apply Below.drew) | (with_reducible apply below_drewN))))).mono ?_; rintro e w5 ⟨r5, rfl, o5, hB5⟩; have hz5 := hB2.size; have hB6 := bgo (w := w) (by repeat (first | (with_reducible exact Below.refl _ _) | (with_reducible assumption) | (with_reducible apply bbox) | ((with_reducible apply Below.setCell); (case hp => (first | exact Nat.le_refl _ | (simp; done) | (simp; omega) | (simp only; omega) | omega))) | (with_reducible apply Below.drew) | (with_reducible apply below_drewN))) hB5; replace k0 := Blk.next (g := w.heap.size) (by repeat (first | (with_reducible assumption) | (with_reducible exact Blk.new _ _ _) | ((with_reducible apply Blk.far); (case hp => (first | exact Nat.le_refl _ | (simp; done) | (simp; omega) | (simp only; omega) | omega))) | (with_reducible apply Blk.set_) | ((with_reducible refine Blk.newE ?_); (simp; done)) | (with_reducible apply Blk.alloc) | (with_reducible apply Blk.drew) | (with_reducible apply Blk.drewN))) hB5; replace k1 := Blk.next (g := w.heap.size + 1) (by repeat (first | (with_reducible assumption) | (with_reducible exact Blk.new _ _ _) | ((with_reducible apply Blk.far); (case hp => (first | exact Nat.le_refl _ | (simp; done) | (simp; omega) | (simp only; omega) | omega))) | (with_reducible apply Blk.set_) | ((with_reducible refine Blk.newE ?_); (simp; done)) | (with_reducible apply Blk.alloc) | (with_reducible apply Blk.drew) | (with_reducible apply Blk.drewN))) hB5)
  refine hK.out _ _ (⟨Blk.cell (by repeat (first | (with_reducible assumption) | (with_reducible exact Blk.new _ _ _) | ((with_reducible apply Blk.far); (case hp => (first | exact Nat.le_refl _ | (simp; done) | (simp; omega) | (simp only; omega) | omega))) | (with_reducible apply Blk.set_) | ((with_reducible refine Blk.newE ?_); (simp; done)) | (with_reducible apply Blk.alloc) | (with_reducible apply Blk.drew) | (with_reducible apply Blk.drewN))), Blk.cell (by repeat (first | (with_reducible assumption) | (with_reducible exact Blk.new _ _ _) | ((with_reducible apply Blk.far); (case hp => (first | exact Nat.le_refl _ | (simp; done) | (simp; omega) | (simp only; omega) | omega))) | (with_reducible apply Blk.set_) | ((with_reducible refine Blk.newE ?_); (simp; done)) | (with_reducible apply Blk.alloc) | (with_reducible apply Blk.drew) | (with_reducible apply Blk.drewN)))⟩) (fun hHeldN => ?_)
  clear hHeld hK K
  have hHeld := hHeldN
  clear hHeldN
  try simp only [Act.put, List.getElem_toArray, List.getElem_cons_zero, List.getElem_cons_succ, List.setIfInBounds_toArray, List.set_cons_zero, List.set_cons_succ]
  refine wpAnyH_take (i := 7) (v := ?_) rfl (by kernel_rfl) (by kernel_rfl) (by kernel_rfl) (fun _ _ _ h => h) (Or.inl ⟨by rfl, fun w hSw => ?_⟩) hHeld ?_
  rotate_left
  · ((try dsimp only at hSw); go_split_ands; go_simp; (try with_reducible rfl))
  try simp only [Act.put, List.getElem_toArray, List.getElem_cons_zero, List.getElem_cons_succ, List.setIfInBounds_toArray, List.set_cons_zero, List.set_cons_succ]
  refine wpAnyH_take (i := 8) (v := ?_) rfl (by kernel_rfl) (by kernel_rfl) (by kernel_rfl) (fun _ _ _ h => h) (Or.inl ⟨by rfl, fun w hSw => ?_⟩) hHeld ?_
  rotate_left
  · ((try dsimp only at hSw); go_split_ands; go_simp; (try with_reducible rfl))
  try simp only [Act.put, List.getElem_toArray, List.getElem_cons_zero, List.getElem_cons_succ, List.setIfInBounds_toArray, List.set_cons_zero, List.set_cons_succ]
  refine wpAnyH_take (i := 9) (v := ?_) rfl (by kernel_rfl) (by kernel_rfl) (by kernel_rfl) (fun _ _ _ h => h) (Or.inl ⟨by rfl, fun w hSw => ?_⟩) hHeld ?_
  rotate_left
  · ((try dsimp only at hSw); go_split_ands; go_simp; (try with_reducible rfl))
  try simp only [Act.put, List.getElem_toArray, List.getElem_cons_zero, List.getElem_cons_succ, List.setIfInBounds_toArray, List.set_cons_zero, List.set_cons_succ]
  refine wpAnyH_take (i := 10) (v := ?_) rfl (by kernel_rfl) (by kernel_rfl) (by kernel_rfl) (fun _ _ _ h => h) (Or.inl ⟨by rfl, fun w hSw => ?_⟩) hHeld ?_
  rotate_left
  · ((try dsimp only at hSw); go_split_ands; go_simp; (try with_reducible rfl))
  try simp only [Act.put, List.getElem_toArray, List.getElem_cons_zero, List.getElem_cons_succ, List.setIfInBounds_toArray, List.set_cons_zero, List.set_cons_succ]
  refine wpAnyH_done (by kernel_rfl) ?_ _
  refine NoPanic.normal ?_
  have O5 := Lib.hid o5
  clear o5 fC fT fT4 hB5 hB4 hB3
  go_wp2_with fail
  go_ret2
  exact ⟨r5, by rw [← HS.out.1]; rfl, by rw [← HS.out.2]; exact O5.out.lower (by first | exact hz5 | (simp; exact hz5)), (by repeat (first | (with_reducible exact Below.refl _ _) | (with_reducible assumption) | (with_reducible apply bbox) | ((with_reducible apply Below.setCell); (case hp => (first | exact Nat.le_refl _ | (simp; done) | (simp; omega) | (simp only; omega) | omega))) | (with_reducible apply Below.drew) | (with_reducible apply below_drewN)))⟩

--@ spec.FailingCase
set_option maxRecDepth 100000 in
set_option maxHeartbeats 3200000 in
theorem c_spec_FailingCase {lo hi lo' hi' : Nat} (v v' : Value) (a b : Asn) (w : World) (h : AsnV w lo hi v a) (h' : AsnV w lo' hi' v' b) :
    Calls Try.prog 16 #[v, v'] w fun e w' => ∃ r, e = .returned (.tuple #[r, .bool (failB a b)]) ∧ IntsO w' w.heap.size r (failL a b) ∧ Below w.heap.size w w' := by
  have hV := Lib.hid h
  have hV' := Lib.hid h'
  obtain ⟨A1, c1, A2, c2, rfl, -, -⟩ := h
  obtain ⟨A3, c3, A4, c4, rfl, -, -⟩ := h'
  go_enter Try.func16, Try.ntmps16
  have k0 : Blk ((w.alloc (.cells #[.slice A1 a.facts.length c1, .slice A2 a.atoms.length c2] tAs)).alloc (.cells #[.slice A3 b.facts.length c3, .slice A4 b.atoms.length c4] tAs)) w.heap.size tAs #[.slice A1 a.facts.length c1, .slice A2 a.atoms.length c2] := (by repeat (first | (with_reducible assumption) | (with_reducible exact Blk.new _ _ _) | ((with_reducible apply Blk.far); (case hp => (first | exact Nat.le_refl _ | (simp; done) | (simp; omega) | (simp only; omega) | omega))) | (with_reducible apply Blk.set_) | ((with_reducible refine Blk.newE ?_); (simp; done)) | (with_reducible apply Blk.alloc) | (with_reducible apply Blk.drew) | (with_reducible apply Blk.drewN)))
  have k1 : Blk ((w.alloc (.cells #[.slice A1 a.facts.length c1, .slice A2 a.atoms.length c2] tAs)).alloc (.cells #[.slice A3 b.facts.length c3, .slice A4 b.atoms.length c4] tAs)) (w.heap.size + 1) tAs #[.slice A3 b.facts.length c3, .slice A4 b.atoms.length c4] := (by repeat (first | (with_reducible assumption) | (with_reducible exact Blk.new _ _ _) | ((with_reducible apply Blk.far); (case hp => (first | exact Nat.le_refl _ | (simp; done) | (simp; omega) | (simp only; omega) | omega))) | (with_reducible apply Blk.set_) | ((with_reducible refine Blk.newE ?_); (simp; done)) | (with_reducible apply Blk.alloc) | (with_reducible apply Blk.drew) | (with_reducible apply Blk.drewN)))
  go_wp2_with fail
  refine (c_spec_AssertionValid _ a _ (hV.out.below (by repeat (first | (with_reducible exact Below.refl _ _) | (with_reducible assumption) | (with_reducible apply bbox) | ((with_reducible apply Below.setCell); (case hp => (first | exact Nat.le_refl _ | (simp; done) | (simp; omega) | (simp only; omega) | omega))) | (with_reducible apply Below.drew) | (with_reducible apply below_drewN))))).mono ?_
  rintro e w1 ⟨rfl, hB1⟩
  have hB : Below w.heap.size w w1 := bgo (w := w) (by repeat (first | (with_reducible exact Below.refl _ _) | (with_reducible assumption) | (with_reducible apply bbox) | ((with_reducible apply Below.setCell); (case hp => (first | exact Nat.le_refl _ | (simp; done) | (simp; omega) | (simp only; omega) | omega))) | (with_reducible apply Below.drew) | (with_reducible apply below_drewN))) hB1
  replace k0 := k0.next hB1
  replace k1 := k1.next hB1
  (replace qk0 := k0.cell; replace rk0 := k0.frozen; replace lk0 := k0.lt; replace qk1 := k1.cell; replace rk1 := k1.frozen; replace lk1 := k1.lt)
  clear hB1
  cases ha : a.valid
  · have E : Hid (failL a b = [] ∧ failB a b = false) := by constructor <;> simp [failL, failB, ha]
    have hz := hB.size
    clear ha
    go_wp2_with fail
    go_ret2
    exact ⟨_, by rw [E.out.2]; rfl, by rw [E.out.1]; exact IntsO.lower (IntsO.empty _ rfl) (by omega), (by repeat (first | (with_reducible exact Below.refl _ _) | (with_reducible assumption) | (with_reducible apply bbox) | ((with_reducible apply Below.setCell); (case hp => (first | exact Nat.le_refl _ | (simp; done) | (simp; omega) | (simp only; omega) | omega))) | (with_reducible apply Below.drew) | (with_reducible apply below_drewN)))⟩
  · have HA := Lib.hid ha
    clear ha
    go_wp2_with fail
    refine (c_spec_AssertionValid _ b _ (hV'.out.below hB)).mono ?_
    rintro e w2 ⟨rfl, hB2⟩
    replace hB := bgo hB hB2
    replace k0 := k0.next hB2
    replace k1 := k1.next hB2
    (replace qk0 := k0.cell; replace rk0 := k0.frozen; replace lk0 := k0.lt; replace qk1 := k1.cell; replace rk1 := k1.frozen; replace lk1 := k1.lt)
    clear hB2
    have hz := hB.size
    cases hb : b.valid
    · have E : Hid (failL a b = [] ∧ failB a b = false) := by constructor <;> simp [failL, failB, hb]
      clear hb
      go_wp2_with fail
      go_ret2
      exact ⟨_, by rw [E.out.2]; rfl, by rw [E.out.1]; exact IntsO.lower (IntsO.empty _ rfl) (by omega), (by repeat (first | (with_reducible exact Below.refl _ _) | (with_reducible assumption) | (with_reducible apply bbox) | ((with_reducible apply Below.setCell); (case hp => (first | exact Nat.le_refl _ | (simp; done) | (simp; omega) | (simp only; omega) | omega))) | (with_reducible apply Below.drew) | (with_reducible apply below_drewN)))⟩
    · have HB := Lib.hid hb
      have E : Hid (failL a b = (failF a b).getD [] ∧ failB a b = (failF a b).isSome) := by constructor <;> simp [failL, failB, HA.out, hb]
      clear hb
      go_wp2_with fail
      refine (c_spec_l6Fails _ _ a b _ (hV.out.below hB) (hV'.out.below hB) HA.out HB.out).mono ?_
      rintro e w3 ⟨r, rfl, o3, hB3⟩
      have O3 := Lib.hid (o3.lower hz)
      replace hB := bgo hB hB3
      clear hB3 o3 k0 k1 qk0 qk1 rk0 rk1 lk0 lk1
      go_wp2_with fail
      go_ret2
      exact ⟨r, by rw [E.out.2]; rfl, by rw [E.out.1]; exact O3.out, hB⟩

--@ spec.Entails
def entF (a b : Asn) : Bool := a.valid && b.valid && !(failF a b).isSome
set_option maxRecDepth 100000 in
set_option maxHeartbeats 3200000 in
theorem c_spec_Entails {lo hi lo' hi' : Nat} (v v' : Value) (a b : Asn) (w : World) (h : AsnV w lo hi v a) (h' : AsnV w lo' hi' v' b) :
    Calls Try.prog 62 #[v, v'] w fun e w' => e = .returned (.bool (entF a b)) ∧ Below w.heap.size w w' := by
  have hV := Lib.hid h
  have hV' := Lib.hid h'
  obtain ⟨A1, c1, A2, c2, rfl, -, -⟩ := h
  obtain ⟨A3, c3, A4, c4, rfl, -, -⟩ := h'
  go_enter Try.func62, Try.ntmps62
  have k0 : Blk ((w.alloc (.cells #[.slice A1 a.facts.length c1, .slice A2 a.atoms.length c2] tAs)).alloc (.cells #[.slice A3 b.facts.length c3, .slice A4 b.atoms.length c4] tAs)) w.heap.size tAs #[.slice A1 a.facts.length c1, .slice A2 a.atoms.length c2] := (by repeat (first | (with_reducible assumption) | (with_reducible exact Blk.new _ _ _) | ((with_reducible apply Blk.far); (case hp => (first | exact Nat.le_refl _ | (simp; done) | (simp; omega) | (simp only; omega) | omega))) | (with_reducible apply Blk.set_) | ((with_reducible refine Blk.newE ?_); (simp; done)) | (with_reducible apply Blk.alloc) | (with_reducible apply Blk.drew) | (with_reducible apply Blk.drewN)))
  have k1 : Blk ((w.alloc (.cells #[.slice A1 a.facts.length c1, .slice A2 a.atoms.length c2] tAs)).alloc (.cells #[.slice A3 b.facts.length c3, .slice A4 b.atoms.length c4] tAs)) (w.heap.size + 1) tAs #[.slice A3 b.facts.length c3, .slice A4 b.atoms.length c4] := (by repeat (first | (with_reducible assumption) | (with_reducible exact Blk.new _ _ _) | ((with_reducible apply Blk.far); (case hp => (first | exact Nat.le_refl _ | (simp; done) | (simp; omega) | (simp only; omega) | omega))) | (with_reducible apply Blk.set_) | ((with_reducible refine Blk.newE ?_); (simp; done)) | (with_reducible apply Blk.alloc) | (with_reducible apply Blk.drew) | (with_reducible apply Blk.drewN)))
  go_wp2_with fail
  refine (c_spec_AssertionValid _ a _ (hV.out.below (by repeat (first | (with_reducible exact Below.refl _ _) | (with_reducible assumption) | (with_reducible apply bbox) | ((with_reducible apply Below.setCell); (case hp => (first | exact Nat.le_refl _ | (simp; done) | (simp; omega) | (simp only; omega) | omega))) | (with_reducible apply Below.drew) | (with_reducible apply below_drewN))))).mono ?_
  rintro e w1 ⟨rfl, hB1⟩
  have hB : Below w.heap.size w w1 := bgo (w := w) (by repeat (first | (with_reducible exact Below.refl _ _) | (with_reducible assumption) | (with_reducible apply bbox) | ((with_reducible apply Below.setCell); (case hp => (first | exact Nat.le_refl _ | (simp; done) | (simp; omega) | (simp only; omega) | omega))) | (with_reducible apply Below.drew) | (with_reducible apply below_drewN))) hB1
  replace k0 := k0.next hB1
  replace k1 := k1.next hB1
  (replace qk0 := k0.cell; replace rk0 := k0.frozen; replace lk0 := k0.lt; replace qk1 := k1.cell; replace rk1 := k1.frozen; replace lk1 := k1.lt)
  clear hB1
  cases ha : a.valid
  · have E : Hid (entF a b = false) := by show _ = _; simp [entF, ha]
    clear ha
    go_wp2_with fail
    go_ret
    exact ⟨ret_bool E.out.symm, hB⟩
  · have HA := Lib.hid ha
    clear ha
    go_wp2_with fail
    refine (c_spec_AssertionValid _ b _ (hV'.out.below hB)).mono ?_
    rintro e w2 ⟨rfl, hB2⟩
    replace hB := bgo hB hB2
    replace k0 := k0.next hB2
    replace k1 := k1.next hB2
    (replace qk0 := k0.cell; replace rk0 := k0.frozen; replace lk0 := k0.lt; replace qk1 := k1.cell; replace rk1 := k1.frozen; replace lk1 := k1.lt)
    clear hB2
    cases hb : b.valid
    · have E : Hid (entF a b = false) := by show _ = _; simp [entF, hb]
      clear hb
      go_wp2_with fail
      go_ret
      exact ⟨ret_bool E.out.symm, hB⟩
    · have HB := Lib.hid hb
      have E : Hid (entF a b = (failF a b).isNone) := by show _ = _; rw [entF, HA.out, hb]; cases failF a b <;> rfl
      clear hb
      go_wp2_with fail
      refine (c_spec_l6Fails _ _ a b _ (hV.out.below hB) (hV'.out.below hB) HA.out HB.out).mono ?_
      rintro e w3 ⟨r, rfl, -, hB3⟩
      replace hB := bgo hB hB3
      clear hB3 k0 k1 qk0 qk1 rk0 rk1 lk0 lk1
      go_wp2_with fail
      go_ret
      exact ⟨ret_bool E.out.symm, hB⟩

--@ impl.Entails
set_option maxRecDepth 100000 in
set_option maxHeartbeats 3200000 in
theorem c_impl_Entails {lo hi lo' hi' : Nat} (v v' : Value) (a b : Asn) (w : World) (h : AsnV w lo hi v a) (h' : AsnV w lo' hi' v' b) (hhi : hi ≤ w.heap.size) (hhi' : hi' ≤ w.heap.size) :
    Calls Try.prog 61 #[v, v'] w fun e w' => e = .returned (.bool (entF a b)) ∧ Below w.heap.size w w' := by
  have hV := Lib.hid h
  have hV' := Lib.hid h'
  obtain ⟨A1, c1, A2, c2, rfl, -, -⟩ := h
  obtain ⟨A3, c3, A4, c4, rfl, -, -⟩ := h'
  go_enter Try.func61, Try.ntmps61
  have k0 : Blk ((w.alloc (.cells #[.slice A1 a.facts.length c1, .slice A2 a.atoms.length c2] tAs)).alloc (.cells #[.slice A3 b.facts.length c3, .slice A4 b.atoms.length c4] tAs)) w.heap.size tAs #[.slice A1 a.facts.length c1, .slice A2 a.atoms.length c2] := (by repeat (first | (with_reducible assumption) | (with_reducible exact Blk.new _ _ _) | ((with_reducible apply Blk.far); (case hp => (first | exact Nat.le_refl _ | (simp; done) | (simp; omega) | (simp only; omega) | omega))) | (with_reducible apply Blk.set_) | ((with_reducible refine Blk.newE ?_); (simp; done)) | (with_reducible apply Blk.alloc) | (with_reducible apply Blk.drew) | (with_reducible apply Blk.drewN)))
  have k1 : Blk ((w.alloc (.cells #[.slice A1 a.facts.length c1, .slice A2 a.atoms.length c2] tAs)).alloc (.cells #[.slice A3 b.facts.length c3, .slice A4 b.atoms.length c4] tAs)) (w.heap.size + 1) tAs #[.slice A3 b.facts.length c3, .slice A4 b.atoms.length c4] := (by repeat (first | (with_reducible assumption) | (with_reducible exact Blk.new _ _ _) | ((with_reducible apply Blk.far); (case hp => (first | exact Nat.le_refl _ | (simp; done) | (simp; omega) | (simp only; omega) | omega))) | (with_reducible apply Blk.set_) | ((with_reducible refine Blk.newE ?_); (simp; done)) | (with_reducible apply Blk.alloc) | (with_reducible apply Blk.drew) | (with_reducible apply Blk.drewN)))
  go_wp2_with fail
  refine (c_impl_AssertionValid _ a _ (hV.out.below (by repeat (first | (with_reducible exact Below.refl _ _) | (with_reducible assumption) | (with_reducible apply bbox) | ((with_reducible apply Below.setCell); (case hp => (first | exact Nat.le_refl _ | (simp; done) | (simp; omega) | (simp only; omega) | omega))) | (with_reducible apply Below.drew) | (with_reducible apply below_drewN))))).mono ?_
  rintro e w1 ⟨rfl, hB1⟩
  have hB : Below w.heap.size w w1 := bgo (w := w) (by repeat (first | (with_reducible exact Below.refl _ _) | (with_reducible assumption) | (with_reducible apply bbox) | ((with_reducible apply Below.setCell); (case hp => (first | exact Nat.le_refl _ | (simp; done) | (simp; omega) | (simp only; omega) | omega))) | (with_reducible apply Below.drew) | (with_reducible apply below_drewN))) hB1
  replace k0 := k0.next hB1
  replace k1 := k1.next hB1
  (replace qk0 := k0.cell; replace rk0 := k0.frozen; replace lk0 := k0.lt; replace qk1 := k1.cell; replace rk1 := k1.frozen; replace lk1 := k1.lt)
  clear hB1
  cases ha : a.valid
  · have E : Hid (entF a b = false) := by show _ = _; simp [entF, ha]
    clear ha
    go_wp2_with fail
    go_ret
    exact ⟨ret_bool E.out.symm, hB⟩
  · have HA := Lib.hid ha
    clear ha
    go_wp2_with fail
    refine (c_impl_AssertionValid _ b _ (hV'.out.below hB)).mono ?_
    rintro e w2 ⟨rfl, hB2⟩
    replace hB := bgo hB hB2
    replace k0 := k0.next hB2
    replace k1 := k1.next hB2
    (replace qk0 := k0.cell; replace rk0 := k0.frozen; replace lk0 := k0.lt; replace qk1 := k1.cell; replace rk1 := k1.frozen; replace lk1 := k1.lt)
    clear hB2
    cases hb : b.valid
    · have E : Hid (entF a b = false) := by show _ = _; simp [entF, hb]
      clear hb
      go_wp2_with fail
      go_ret
      exact ⟨ret_bool E.out.symm, hB⟩
    · have HB := Lib.hid hb
      have hz := hB.size
      have E : Hid (entF a b = (failF a b).isNone) := by show _ = _; rw [entF, HA.out, hb]; cases failF a b <;> rfl
      clear hb
      go_wp2_with fail
      refine (c_impl_failingCase _ _ a b _ (hV.out.below hB) (hV'.out.below hB) (by omega) (by omega) HA.out HB.out).mono ?_
      rintro e w3 ⟨rfl, hB3⟩
      replace hB := bgo hB hB3
      clear hB3 k0 k1 qk0 qk1 rk0 rk1 lk0 lk1
      go_wp2_with fail
      go_ret
      exact ⟨ret_bool E.out.symm, (by repeat (first | (with_reducible exact Below.refl _ _) | (with_reducible assumption) | (with_reducible apply bbox) | ((with_reducible apply Below.setCell); (case hp => (first | exact Nat.le_refl _ | (simp; done) | (simp; omega) | (simp only; omega) | omega))) | (with_reducible apply Below.drew) | (with_reducible apply below_drewN)))⟩
end Go.Proofs.Ytkiogmimolnkgaa
