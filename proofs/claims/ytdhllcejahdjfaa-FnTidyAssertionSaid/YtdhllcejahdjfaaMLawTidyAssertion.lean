/- Contracts: the spec's FailingCase; Entails. -/
import Derived.Test.YtdhllcejahdjfaaMFailG
import Derived.Test.YtdhllcejahdjfaaMModel
import Derived.Test.YtdhllcejahdjfaaMDefS
import Derived.BigQuiet
import Derived.Deep.QuietTactic
import Derived.Test.YtdhllcejahdjfaaSame
import Derived.Test.YtdhllcejahdjfaaTidyT
import Derived.Test.YtdhllcejahdjfaaDrawE
import Derived.Deep.RegionHeld3
set_option linter.unusedSimpArgs false
set_option linter.unusedVariables false
namespace Go.Proofs.Ytdhllcejahdjfaa
open Go Go.RowKit Go.Proofs
attribute [local go_sem ↓] Go.wp_at_zero Go.wp_at_succ

--@ spec.l6Fails
theorem termsL_star (a b : Asn) (t : Int) : t ∈ termsL (starA a b) ↔ t ∈ termsL a ∨ t ∈ termsL b := by
  simp only [termsL, starA, List.flatMap_append, List.mem_append]
  constructor
  · rintro ((h | h) | (h | h)) <;> simp [h]
  · rintro ((h | h) | (h | h)) <;> simp [h]
theorem seekF_fail {a b : Asn} (ha : a.valid = true) (hb : b.valid = true) : (!(seekF a b (tset (termsL (starA a b))) 8 opened).isEmpty) = (failF a b).isSome ∧ firstI (seekF a b (tset (termsL (starA a b))) 8 opened) = (failF a b).getD [] := by
  have e : seek a (tset (termsL (starA a b))) 8 opened = cases a (caseS a (tset (termsL b))) := by
    refine seek_caseS ha _ _ fun j h1 h2 => ?_
    rw [caseS_bit, tset_bit, tset_bit]
    have hj : ¬ j = 0 := by omega
    rw [decide_eq_false hj, Bool.or_false, ← Bool.decide_or, decide_eq_decide, termsL_star]
    constructor
    · rintro ⟨g, h | h⟩
      · exact Or.inl ⟨g, h⟩
      · exact Or.inr ⟨g, h⟩
    · rintro (⟨g, h⟩ | ⟨g, h⟩)
      · exact ⟨g, Or.inl h⟩
      · exact ⟨g, Or.inr h⟩
  unfold seekF firstI
  rw [e, ← failF_eq hb]
  cases (cases a (caseS a (tset (termsL b)))).filter fun d => !caseB a b d <;> exact ⟨rfl, rfl⟩
theorem termsL_star_ok {a b : Asn} (ha : a.valid = true) (hb : b.valid = true) : ∀ t ∈ termsL (starA a b), isTermB t = true := by
  intro t ht
  rcases (termsL_star a b t).1 ht with h | h
  · exact termsL_ok ha t h
  · exact termsL_ok hb t h
set_option maxRecDepth 100000 in
set_option maxHeartbeats 3200000 in
theorem c_spec_l6Fails {lo hi lo' hi' : Nat} (v v' : Value) (a b : Asn) (w : World) (h : AsnV w lo hi v a) (h' : AsnV w lo' hi' v' b) (ha : a.valid = true) (hb : b.valid = true) :
    Calls Try.prog 101 #[v, v'] w fun e w' => ∃ r, e = .returned (.tuple #[r, .bool (failF a b).isSome]) ∧ IntsO w' w.heap.size r ((failF a b).getD []) ∧ Below w.heap.size w w' := by
  have hV := Lib.hid h
  have hV' := Lib.hid h'
  have HA := Lib.hid ha
  have HB := Lib.hid hb
  have HT := Lib.hid (termsL_star_ok ha hb)
  have HS := Lib.hid (seekF_fail ha hb)
  have HOP := Lib.hid openedB
  have HLA := Lib.hid (valid_len ha)
  have HLB := Lib.hid (valid_len hb)
  obtain ⟨A1, c1, A2, c2, rfl, -, -⟩ := h
  obtain ⟨A3, c3, A4, c4, rfl, -, -⟩ := h'
  clear ha hb
  go_enter Try.func101, Try.ntmps101
  have k0 : Blk ((w.alloc (.cells #[.slice A1 a.facts.length c1, .slice A2 a.atoms.length c2] tAs)).alloc (.cells #[.slice A3 b.facts.length c3, .slice A4 b.atoms.length c4] tAs)) w.heap.size tAs #[.slice A1 a.facts.length c1, .slice A2 a.atoms.length c2] := (by repeat (first | (with_reducible assumption) | (with_reducible exact Blk.new _ _ _) | ((with_reducible apply Blk.far); (case hp => (first | exact Nat.le_refl _ | (simp; done) | (simp; omega) | (simp only; omega) | omega))) | (with_reducible apply Blk.set_) | ((with_reducible refine Blk.newE ?_); (simp; done)) | (with_reducible apply Blk.alloc) | (with_reducible apply Blk.drew) | (with_reducible apply Blk.drewN)))
  have k1 : Blk ((w.alloc (.cells #[.slice A1 a.facts.length c1, .slice A2 a.atoms.length c2] tAs)).alloc (.cells #[.slice A3 b.facts.length c3, .slice A4 b.atoms.length c4] tAs)) (w.heap.size + 1) tAs #[.slice A3 b.facts.length c3, .slice A4 b.atoms.length c4] := (by repeat (first | (with_reducible assumption) | (with_reducible exact Blk.new _ _ _) | ((with_reducible apply Blk.far); (case hp => (first | exact Nat.le_refl _ | (simp; done) | (simp; omega) | (simp only; omega) | omega))) | (with_reducible apply Blk.set_) | ((with_reducible refine Blk.newE ?_); (simp; done)) | (with_reducible apply Blk.alloc) | (with_reducible apply Blk.drew) | (with_reducible apply Blk.drewN)))
  go_wp2_with fail
  refine wp_region_noPanic ?_
  refine wp_region_held_drew (S := (fun w' => (∀ i, w'.cell? ⟨w.heap.size, i, none⟩ = #[.slice A1 a.facts.length c1, .slice A2 a.atoms.length c2][i]?) ∧ (∀ i, w'.cell? ⟨w.heap.size + 1, i, none⟩ = #[.slice A3 b.facts.length c3, .slice A4 b.atoms.length c4][i]?))) (by kernel_rfl) (⟨Blk.cell (by repeat (first | (with_reducible assumption) | (with_reducible exact Blk.new _ _ _) | ((with_reducible apply Blk.far); (case hp => (first | exact Nat.le_refl _ | (simp; done) | (simp; omega) | (simp only; omega) | omega))) | (with_reducible apply Blk.set_) | ((with_reducible refine Blk.newE ?_); (simp; done)) | (with_reducible apply Blk.alloc) | (with_reducible apply Blk.drew) | (with_reducible apply Blk.drewN))), Blk.cell (by repeat (first | (with_reducible assumption) | (with_reducible exact Blk.new _ _ _) | ((with_reducible apply Blk.far); (case hp => (first | exact Nat.le_refl _ | (simp; done) | (simp; omega) | (simp only; omega) | omega))) | (with_reducible apply Blk.set_) | ((with_reducible refine Blk.newE ?_); (simp; done)) | (with_reducible apply Blk.alloc) | (with_reducible apply Blk.drew) | (with_reducible apply Blk.drewN)))⟩) (fun hHeld => ?_)
  refine wpAnyH_take (i := 0) (v := ?_) rfl (by kernel_rfl) (by kernel_rfl) (by kernel_rfl) (fun _ _ _ h => h) (Or.inl ⟨by rfl, fun w hSw => ?_⟩) hHeld ?_
  rotate_left
  · ((try dsimp only at hSw); go_split_ands; go_simp; (try with_reducible rfl))
  try simp only [Act.put, List.getElem_toArray, List.getElem_cons_zero, List.getElem_cons_succ, List.setIfInBounds_toArray, List.set_cons_zero, List.set_cons_succ]
  refine wpAnyH_take (i := 1) (v := ?_) rfl (by kernel_rfl) (by kernel_rfl) (by kernel_rfl) (fun _ _ _ h => h) (Or.inl ⟨by rfl, fun w hSw => ?_⟩) hHeld ?_
  rotate_left
  · ((try dsimp only at hSw); go_split_ands; go_simp; (try with_reducible rfl))
  try simp only [Act.put, List.getElem_toArray, List.getElem_cons_zero, List.getElem_cons_succ, List.setIfInBounds_toArray, List.set_cons_zero, List.set_cons_succ]
  refine wpAnyH_take (i := 2) (v := ?_) rfl (by kernel_rfl) (by kernel_rfl) (by kernel_rfl) (fun _ _ _ h => h) (Or.inl ⟨by rfl, fun w hSw => ?_⟩) hHeld ?_
  rotate_left
  · ((try dsimp only at hSw); go_split_ands; go_simp; (try with_reducible rfl))
  try simp only [Act.put, List.getElem_toArray, List.getElem_cons_zero, List.getElem_cons_succ, List.setIfInBounds_toArray, List.set_cons_zero, List.set_cons_succ]
  refine wpAnyH_take (i := 3) (v := ?_) rfl (by kernel_rfl) (by kernel_rfl) (by kernel_rfl) (fun _ _ _ h => h) (Or.inl ⟨by rfl, fun w hSw => ?_⟩) hHeld ?_
  rotate_left
  · ((try dsimp only at hSw); go_split_ands; go_simp; (try with_reducible rfl))
  try simp only [Act.put, List.getElem_toArray, List.getElem_cons_zero, List.getElem_cons_succ, List.setIfInBounds_toArray, List.set_cons_zero, List.set_cons_succ]
  refine wpAnyH_ready (rs := [4]) (by kernel_rfl) (by simp) ?_
  refine AllReadyH.cons rfl (fun K hK => ?_) AllReadyH.nil
  try simp only [List.getElem_toArray, List.getElem_cons_zero, List.getElem_cons_succ]
  (go_simp; refine (c_spec_l6Both _ _ a b _ (hV.out.below (by repeat (first | (with_reducible exact Below.refl _ _) | (with_reducible assumption) | (with_reducible apply bbox) | ((with_reducible apply Below.setCell); (case hp => (first | exact Nat.le_refl _ | (simp; done) | (simp; omega) | (simp only; omega) | omega))) | (with_reducible apply Below.drew) | (with_reducible apply below_drewN)))) (hV'.out.below (by repeat (first | (with_reducible exact Below.refl _ _) | (with_reducible assumption) | (with_reducible apply bbox) | ((with_reducible apply Below.setCell); (case hp => (first | exact Nat.le_refl _ | (simp; done) | (simp; omega) | (simp only; omega) | omega))) | (with_reducible apply Below.drew) | (with_reducible apply below_drewN)))) (by have := HLA.out; have := HLB.out; omega) (by have := HLA.out; have := HLB.out; omega) HT.out).mono ?_; rintro e w3 ⟨r3, rfl, o3, hB3⟩; obtain ⟨Tb, ct, rfl, fT⟩ := o3.reads; rw [flagsOf_length]; have hB := bgo (w := w) (by repeat (first | (with_reducible exact Below.refl _ _) | (with_reducible assumption) | (with_reducible apply bbox) | ((with_reducible apply Below.setCell); (case hp => (first | exact Nat.le_refl _ | (simp; done) | (simp; omega) | (simp only; omega) | omega))) | (with_reducible apply Below.drew) | (with_reducible apply below_drewN))) hB3; replace k0 := Blk.next (g := w.heap.size) (by repeat (first | (with_reducible assumption) | (with_reducible exact Blk.new _ _ _) | ((with_reducible apply Blk.far); (case hp => (first | exact Nat.le_refl _ | (simp; done) | (simp; omega) | (simp only; omega) | omega))) | (with_reducible apply Blk.set_) | ((with_reducible refine Blk.newE ?_); (simp; done)) | (with_reducible apply Blk.alloc) | (with_reducible apply Blk.drew) | (with_reducible apply Blk.drewN))) hB3; replace k1 := Blk.next (g := w.heap.size + 1) (by repeat (first | (with_reducible assumption) | (with_reducible exact Blk.new _ _ _) | ((with_reducible apply Blk.far); (case hp => (first | exact Nat.le_refl _ | (simp; done) | (simp; omega) | (simp only; omega) | omega))) | (with_reducible apply Blk.set_) | ((with_reducible refine Blk.newE ?_); (simp; done)) | (with_reducible apply Blk.alloc) | (with_reducible apply Blk.drew) | (with_reducible apply Blk.drewN))) hB3; clear o3)
  refine hK.out _ _ (⟨Blk.cell (by repeat (first | (with_reducible assumption) | (with_reducible exact Blk.new _ _ _) | ((with_reducible apply Blk.far); (case hp => (first | exact Nat.le_refl _ | (simp; done) | (simp; omega) | (simp only; omega) | omega))) | (with_reducible apply Blk.set_) | ((with_reducible refine Blk.newE ?_); (simp; done)) | (with_reducible apply Blk.alloc) | (with_reducible apply Blk.drew) | (with_reducible apply Blk.drewN))), Blk.cell (by repeat (first | (with_reducible assumption) | (with_reducible exact Blk.new _ _ _) | ((with_reducible apply Blk.far); (case hp => (first | exact Nat.le_refl _ | (simp; done) | (simp; omega) | (simp only; omega) | omega))) | (with_reducible apply Blk.set_) | ((with_reducible refine Blk.newE ?_); (simp; done)) | (with_reducible apply Blk.alloc) | (with_reducible apply Blk.drew) | (with_reducible apply Blk.drewN)))⟩) (fun hHeldN => ?_)
  clear hHeld hK K
  have hHeld := hHeldN
  clear hHeldN
  try simp only [Act.put, List.getElem_toArray, List.getElem_cons_zero, List.getElem_cons_succ, List.setIfInBounds_toArray, List.set_cons_zero, List.set_cons_succ]
  refine wpAnyH_ready (rs := [5]) (by kernel_rfl) (by simp) ?_
  refine AllReadyH.cons rfl (fun K hK => ?_) AllReadyH.nil
  try simp only [List.getElem_toArray, List.getElem_cons_zero, List.getElem_cons_succ]
  (go_simp; refine (c_spec_l5Open _).mono ?_; rintro e w4 ⟨r4, rfl, o4, hB4⟩; obtain ⟨Cb, cc, rfl, fC⟩ := o4.reads; have hB2 := bgo (w := w) (by repeat (first | (with_reducible exact Below.refl _ _) | (with_reducible assumption) | (with_reducible apply bbox) | ((with_reducible apply Below.setCell); (case hp => (first | exact Nat.le_refl _ | (simp; done) | (simp; omega) | (simp only; omega) | omega))) | (with_reducible apply Below.drew) | (with_reducible apply below_drewN))) hB4; have fT4 := fT.below hB4; replace k0 := Blk.next (g := w.heap.size) (by repeat (first | (with_reducible assumption) | (with_reducible exact Blk.new _ _ _) | ((with_reducible apply Blk.far); (case hp => (first | exact Nat.le_refl _ | (simp; done) | (simp; omega) | (simp only; omega) | omega))) | (with_reducible apply Blk.set_) | ((with_reducible refine Blk.newE ?_); (simp; done)) | (with_reducible apply Blk.alloc) | (with_reducible apply Blk.drew) | (with_reducible apply Blk.drewN))) hB4; replace k1 := Blk.next (g := w.heap.size + 1) (by repeat (first | (with_reducible assumption) | (with_reducible exact Blk.new _ _ _) | ((with_reducible apply Blk.far); (case hp => (first | exact Nat.le_refl _ | (simp; done) | (simp; omega) | (simp only; omega) | omega))) | (with_reducible apply Blk.set_) | ((with_reducible refine Blk.newE ?_); (simp; done)) | (with_reducible apply Blk.alloc) | (with_reducible apply Blk.drew) | (with_reducible apply Blk.drewN))) hB4; clear o4)
  refine hK.out _ _ (⟨Blk.cell (by repeat (first | (with_reducible assumption) | (with_reducible exact Blk.new _ _ _) | ((with_reducible apply Blk.far); (case hp => (first | exact Nat.le_refl _ | (simp; done) | (simp; omega) | (simp only; omega) | omega))) | (with_reducible apply Blk.set_) | ((with_reducible refine Blk.newE ?_); (simp; done)) | (with_reducible apply Blk.alloc) | (with_reducible apply Blk.drew) | (with_reducible apply Blk.drewN))), Blk.cell (by repeat (first | (with_reducible assumption) | (with_reducible exact Blk.new _ _ _) | ((with_reducible apply Blk.far); (case hp => (first | exact Nat.le_refl _ | (simp; done) | (simp; omega) | (simp only; omega) | omega))) | (with_reducible apply Blk.set_) | ((with_reducible refine Blk.newE ?_); (simp; done)) | (with_reducible apply Blk.alloc) | (with_reducible apply Blk.drew) | (with_reducible apply Blk.drewN)))⟩) (fun hHeldN => ?_)
  clear hHeld hK K
  have hHeld := hHeldN
  clear hHeldN
  try simp only [Act.put, List.getElem_toArray, List.getElem_cons_zero, List.getElem_cons_succ, List.setIfInBounds_toArray, List.set_cons_zero, List.set_cons_succ]
  refine wpAnyH_ready (rs := [6]) (by kernel_rfl) (by simp) ?_
  refine AllReadyH.cons rfl (fun K hK => ?_) AllReadyH.nil
  try simp only [List.getElem_toArray, List.getElem_cons_zero, List.getElem_cons_succ]
  (go_simp; refine (c_spec_l6Seek Tb ct HA.out HB.out 8 opened Cb cc _ _ _ (by omega) rfl (HOP.out.2 _) HOP.out.1 (hV.out.below (by repeat (first | (with_reducible exact Below.refl _ _) | (with_reducible assumption) | (with_reducible apply bbox) | ((with_reducible apply Below.setCell); (case hp => (first | exact Nat.le_refl _ | (simp; done) | (simp; omega) | (simp only; omega) | omega))) | (with_reducible apply Below.drew) | (with_reducible apply below_drewN)))) (hV'.out.below (by repeat (first | (with_reducible exact Below.refl _ _) | (with_reducible assumption) | (with_reducible apply bbox) | ((with_reducible apply Below.setCell); (case hp => (first | exact Nat.le_refl _ | (simp; done) | (simp; omega) | (simp only; omega) | omega))) | (with_reducible apply Below.drew) | (with_reducible apply below_drewN)))) (fT4.below (by repeat (first | (with_reducible exact Below.refl _ _) | (with_reducible assumption) | (with_reducible apply bbox) | ((with_reducible apply Below.setCell); (case hp => (first | exact Nat.le_refl _ | (simp; done) | (simp; omega) | (simp only; omega) | omega))) | (with_reducible apply Below.drew) | (with_reducible apply below_drewN)))) (fC.below (by repeat (first | (with_reducible exact Below.refl _ _) | (with_reducible assumption) | (with_reducible apply bbox) | ((with_reducible apply Below.setCell); (case hp => (first | exact Nat.le_refl _ | (simp; done) | (simp; omega) | (simp only; omega) | omega))) | (with_reducible apply Below.drew) | (with_reducible apply below_drewN))))).mono ?_; rintro e w5 ⟨r5, rfl, o5, hB5⟩; have hz5 := hB2.size; have hB6 := bgo (w := w) (by repeat (first | (with_reducible exact Below.refl _ _) | (with_reducible assumption) | (with_reducible apply bbox) | ((with_reducible apply Below.setCell); (case hp => (first | exact Nat.le_refl _ | (simp; done) | (simp; omega) | (simp only; omega) | omega))) | (with_reducible apply Below.drew) | (with_reducible apply below_drewN))) hB5; replace k0 := Blk.next (g := w.heap.size) (by repeat (first | (with_reducible assumption) | (with_reducible exact Blk.new _ _ _) | ((with_reducible apply Blk.far); (case hp => (first | exact Nat.le_refl _ | (simp; done) | (simp; omega) | (simp only; omega) | omega))) | (with_reducible apply Blk.set_) | ((with_reducible refine Blk.newE ?_); (simp; done)) | (with_reducible apply Blk.alloc) | (with_reducible apply Blk.drew) | (with_reducible apply Blk.drewN))) hB5; replace k1 := Blk.next (g := w.heap.size + 1) (by repeat (first | (with_reducible assumption) | (with_reducible exact Blk.new _ _ _) | ((with_reducible apply Blk.far); (case hp => (first | exact Nat.le_refl _ | (simp; done) | (simp; omega) | (simp only; omega) | omega))) | (with_reducible apply Blk.set_) | ((with_reducible refine Blk.newE ?_); (simp; done)) | (with_reducible apply Blk.alloc) | (with_reducible apply Blk.drew) | (with_reducible apply Blk.drewN))) hB5)
  refine hK.out _ _ (⟨Blk.cell (by repeat (first | (with_reducible assumption) | (with_reducible exact Blk.new _ _ _) | ((with_reducible apply Blk.far); (case hp => (first | exact Nat.le_refl _ | (simp; done) | (simp; omega) | (simp only; omega) | omega))) | (with_reducible apply Blk.set_) | ((with_reducible refine Blk.newE ?_); (simp; done)) | (with_reducible apply Blk.alloc) | (with_reducible apply Blk.drew) | (with_reducible apply Blk.drewN))), Blk.cell (by repeat (first | (with_reducible assumption) | (with_reducible exact Blk.new _ _ _) | ((with_reducible apply Blk.far); (case hp => (first | exact Nat.le_refl _ | (simp; done) | (simp; omega) | (simp only; omega) | omega))) | (with_reducible apply Blk.set_) | ((with_reducible refine Blk.newE ?_); (simp; done)) | (with_reducible apply Blk.alloc) | (with_reducible apply Blk.drew) | (with_reducible apply Blk.drewN)))⟩) (fun hHeldN => ?_)
  clear hHeld hK K
  have hHeld := hHeldN
  clear hHeldN
  try simp only [Act.put, List.getElem_toArray, List.getElem_cons_zero, List.getElem_cons_succ, List.setIfInBounds_toArray, List.set_cons_zero, List.set_cons_succ]
  refine wpAnyH_take (i := 7) (v := ?_) rfl (by kernel_rfl) (by kernel_rfl) (by kernel_rfl) (fun _ _ _ h => h) (Or.inl ⟨by rfl, fun w hSw => ?_⟩) hHeld ?_
  rotate_left
  · ((try dsimp only at hSw); go_split_ands; go_simp; (try with_reducible rfl))
  try simp only [Act.put, List.getElem_toArray, List.getElem_cons_zero, List.getElem_cons_succ, List.setIfInBounds_toArray, List.set_cons_zero, List.set_cons_succ]
  refine wpAnyH_take (i := 8) (v := ?_) rfl (by kernel_rfl) (by kernel_rfl) (by kernel_rfl) (fun _ _ _ h => h) (Or.inl ⟨by rfl, fun w hSw => ?_⟩) hHeld ?_
  rotate_left
  · ((try dsimp only at hSw); go_split_ands; go_simp; (try with_reducible rfl))
  try simp only [Act.put, List.getElem_toArray, List.getElem_cons_zero, List.getElem_cons_succ, List.setIfInBounds_toArray, List.set_cons_zero, List.set_cons_succ]
  refine wpAnyH_take (i := 9) (v := ?_) rfl (by kernel_rfl) (by kernel_rfl) (by kernel_rfl) (fun _ _ _ h => h) (Or.inl ⟨by rfl, fun w hSw => ?_⟩) hHeld ?_
  rotate_left
  · ((try dsimp only at hSw); go_split_ands; go_simp; (try with_reducible rfl))
  try simp only [Act.put, List.getElem_toArray, List.getElem_cons_zero, List.getElem_cons_succ, List.setIfInBounds_toArray, List.set_cons_zero, List.set_cons_succ]
  refine wpAnyH_take (i := 10) (v := ?_) rfl (by kernel_rfl) (by kernel_rfl) (by kernel_rfl) (fun _ _ _ h => h) (Or.inl ⟨by rfl, fun w hSw => ?_⟩) hHeld ?_
  rotate_left
  · ((try dsimp only at hSw); go_split_ands; go_simp; (try with_reducible rfl))
  try simp only [Act.put, List.getElem_toArray, List.getElem_cons_zero, List.getElem_cons_succ, List.setIfInBounds_toArray, List.set_cons_zero, List.set_cons_succ]
  refine wpAnyH_done (by kernel_rfl) ?_ _
  refine NoPanic.normal ?_
  have O5 := Lib.hid o5
  clear o5 fC fT fT4 hB5 hB4 hB3
  go_wp2_with fail
  go_ret2
  exact ⟨r5, by rw [← HS.out.1]; rfl, by rw [← HS.out.2]; exact O5.out.lower (by first | exact hz5 | (simp; exact hz5)), (by repeat (first | (with_reducible exact Below.refl _ _) | (with_reducible assumption) | (with_reducible apply bbox) | ((with_reducible apply Below.setCell); (case hp => (first | exact Nat.le_refl _ | (simp; done) | (simp; omega) | (simp only; omega) | omega))) | (with_reducible apply Below.drew) | (with_reducible apply below_drewN)))⟩

--@ spec.FailingCase
set_option maxRecDepth 100000 in
set_option maxHeartbeats 3200000 in
theorem c_spec_FailingCase {lo hi lo' hi' : Nat} (v v' : Value) (a b : Asn) (w : World) (h : AsnV w lo hi v a) (h' : AsnV w lo' hi' v' b) :
    Calls Try.prog 39 #[v, v'] w fun e w' => ∃ r, e = .returned (.tuple #[r, .bool (failB a b)]) ∧ IntsO w' w.heap.size r (failL a b) ∧ Below w.heap.size w w' := by
  have hV := Lib.hid h
  have hV' := Lib.hid h'
  obtain ⟨A1, c1, A2, c2, rfl, -, -⟩ := h
  obtain ⟨A3, c3, A4, c4, rfl, -, -⟩ := h'
  go_enter Try.func39, Try.ntmps39
  have k0 : Blk ((w.alloc (.cells #[.slice A1 a.facts.length c1, .slice A2 a.atoms.length c2] tAs)).alloc (.cells #[.slice A3 b.facts.length c3, .slice A4 b.atoms.length c4] tAs)) w.heap.size tAs #[.slice A1 a.facts.length c1, .slice A2 a.atoms.length c2] := (by repeat (first | (with_reducible assumption) | (with_reducible exact Blk.new _ _ _) | ((with_reducible apply Blk.far); (case hp => (first | exact Nat.le_refl _ | (simp; done) | (simp; omega) | (simp only; omega) | omega))) | (with_reducible apply Blk.set_) | ((with_reducible refine Blk.newE ?_); (simp; done)) | (with_reducible apply Blk.alloc) | (with_reducible apply Blk.drew) | (with_reducible apply Blk.drewN)))
  have k1 : Blk ((w.alloc (.cells #[.slice A1 a.facts.length c1, .slice A2 a.atoms.length c2] tAs)).alloc (.cells #[.slice A3 b.facts.length c3, .slice A4 b.atoms.length c4] tAs)) (w.heap.size + 1) tAs #[.slice A3 b.facts.length c3, .slice A4 b.atoms.length c4] := (by repeat (first | (with_reducible assumption) | (with_reducible exact Blk.new _ _ _) | ((with_reducible apply Blk.far); (case hp => (first | exact Nat.le_refl _ | (simp; done) | (simp; omega) | (simp only; omega) | omega))) | (with_reducible apply Blk.set_) | ((with_reducible refine Blk.newE ?_); (simp; done)) | (with_reducible apply Blk.alloc) | (with_reducible apply Blk.drew) | (with_reducible apply Blk.drewN)))
  go_wp2_with fail
  refine (c_spec_AssertionValid _ a _ (hV.out.below (by repeat (first | (with_reducible exact Below.refl _ _) | (with_reducible assumption) | (with_reducible apply bbox) | ((with_reducible apply Below.setCell); (case hp => (first | exact Nat.le_refl _ | (simp; done) | (simp; omega) | (simp only; omega) | omega))) | (with_reducible apply Below.drew) | (with_reducible apply below_drewN))))).mono ?_
  rintro e w1 ⟨rfl, hB1⟩
  have hB : Below w.heap.size w w1 := bgo (w := w) (by repeat (first | (with_reducible exact Below.refl _ _) | (with_reducible assumption) | (with_reducible apply bbox) | ((with_reducible apply Below.setCell); (case hp => (first | exact Nat.le_refl _ | (simp; done) | (simp; omega) | (simp only; omega) | omega))) | (with_reducible apply Below.drew) | (with_reducible apply below_drewN))) hB1
  replace k0 := k0.next hB1
  replace k1 := k1.next hB1
  (replace qk0 := k0.cell; replace rk0 := k0.frozen; replace lk0 := k0.lt; replace qk1 := k1.cell; replace rk1 := k1.frozen; replace lk1 := k1.lt)
  clear hB1
  cases ha : a.valid
  · have E : Hid (failL a b = [] ∧ failB a b = false) := by constructor <;> simp [failL, failB, ha]
    have hz := hB.size
    clear ha
    go_wp2_with fail
    go_ret2
    exact ⟨_, by rw [E.out.2]; rfl, by rw [E.out.1]; exact IntsO.lower (IntsO.empty _ rfl) (by omega), (by repeat (first | (with_reducible exact Below.refl _ _) | (with_reducible assumption) | (with_reducible apply bbox) | ((with_reducible apply Below.setCell); (case hp => (first | exact Nat.le_refl _ | (simp; done) | (simp; omega) | (simp only; omega) | omega))) | (with_reducible apply Below.drew) | (with_reducible apply below_drewN)))⟩
  · have HA := Lib.hid ha
    clear ha
    go_wp2_with fail
    refine (c_spec_AssertionValid _ b _ (hV'.out.below hB)).mono ?_
    rintro e w2 ⟨rfl, hB2⟩
    replace hB := bgo hB hB2
    replace k0 := k0.next hB2
    replace k1 := k1.next hB2
    (replace qk0 := k0.cell; replace rk0 := k0.frozen; replace lk0 := k0.lt; replace qk1 := k1.cell; replace rk1 := k1.frozen; replace lk1 := k1.lt)
    clear hB2
    have hz := hB.size
    cases hb : b.valid
    · have E : Hid (failL a b = [] ∧ failB a b = false) := by constructor <;> simp [failL, failB, hb]
      clear hb
      go_wp2_with fail
      go_ret2
      exact ⟨_, by rw [E.out.2]; rfl, by rw [E.out.1]; exact IntsO.lower (IntsO.empty _ rfl) (by omega), (by repeat (first | (with_reducible exact Below.refl _ _) | (with_reducible assumption) | (with_reducible apply bbox) | ((with_reducible apply Below.setCell); (case hp => (first | exact Nat.le_refl _ | (simp; done) | (simp; omega) | (simp only; omega) | omega))) | (with_reducible apply Below.drew) | (with_reducible apply below_drewN)))⟩
    · have HB := Lib.hid hb
      have E : Hid (failL a b = (failF a b).getD [] ∧ failB a b = (failF a b).isSome) := by constructor <;> simp [failL, failB, HA.out, hb]
      clear hb
      go_wp2_with fail
      refine (c_spec_l6Fails _ _ a b _ (hV.out.below hB) (hV'.out.below hB) HA.out HB.out).mono ?_
      rintro e w3 ⟨r, rfl, o3, hB3⟩
      have O3 := Lib.hid (o3.lower hz)
      replace hB := bgo hB hB3
      clear hB3 o3 k0 k1 qk0 qk1 rk0 rk1 lk0 lk1
      go_wp2_with fail
      go_ret2
      exact ⟨r, by rw [E.out.2]; rfl, by rw [E.out.1]; exact O3.out, hB⟩

--@ spec.Entails
def entF (a b : Asn) : Bool := a.valid && b.valid && !(failF a b).isSome
set_option maxRecDepth 100000 in
set_option maxHeartbeats 3200000 in
theorem c_spec_Entails {lo hi lo' hi' : Nat} (v v' : Value) (a b : Asn) (w : World) (h : AsnV w lo hi v a) (h' : AsnV w lo' hi' v' b) :
    Calls Try.prog 35 #[v, v'] w fun e w' => e = .returned (.bool (entF a b)) ∧ Below w.heap.size w w' := by
  have hV := Lib.hid h
  have hV' := Lib.hid h'
  obtain ⟨A1, c1, A2, c2, rfl, -, -⟩ := h
  obtain ⟨A3, c3, A4, c4, rfl, -, -⟩ := h'
  go_enter Try.func35, Try.ntmps35
  have k0 : Blk ((w.alloc (.cells #[.slice A1 a.facts.length c1, .slice A2 a.atoms.length c2] tAs)).alloc (.cells #[.slice A3 b.facts.length c3, .slice A4 b.atoms.length c4] tAs)) w.heap.size tAs #[.slice A1 a.facts.length c1, .slice A2 a.atoms.length c2] := (by repeat (first | (with_reducible assumption) | (with_reducible exact Blk.new _ _ _) | ((with_reducible apply Blk.far); (case hp => (first | exact Nat.le_refl _ | (simp; done) | (simp; omega) | (simp only; omega) | omega))) | (with_reducible apply Blk.set_) | ((with_reducible refine Blk.newE ?_); (simp; done)) | (with_reducible apply Blk.alloc) | (with_reducible apply Blk.drew) | (with_reducible apply Blk.drewN)))
  have k1 : Blk ((w.alloc (.cells #[.slice A1 a.facts.length c1, .slice A2 a.atoms.length c2] tAs)).alloc (.cells #[.slice A3 b.facts.length c3, .slice A4 b.atoms.length c4] tAs)) (w.heap.size + 1) tAs #[.slice A3 b.facts.length c3, .slice A4 b.atoms.length c4] := (by repeat (first | (with_reducible assumption) | (with_reducible exact Blk.new _ _ _) | ((with_reducible apply Blk.far); (case hp => (first | exact Nat.le_refl _ | (simp; done) | (simp; omega) | (simp only; omega) | omega))) | (with_reducible apply Blk.set_) | ((with_reducible refine Blk.newE ?_); (simp; done)) | (with_reducible apply Blk.alloc) | (with_reducible apply Blk.drew) | (with_reducible apply Blk.drewN)))
  go_wp2_with fail
  refine (c_spec_AssertionValid _ a _ (hV.out.below (by repeat (first | (with_reducible exact Below.refl _ _) | (with_reducible assumption) | (with_reducible apply bbox) | ((with_reducible apply Below.setCell); (case hp => (first | exact Nat.le_refl _ | (simp; done) | (simp; omega) | (simp only; omega) | omega))) | (with_reducible apply Below.drew) | (with_reducible apply below_drewN))))).mono ?_
  rintro e w1 ⟨rfl, hB1⟩
  have hB : Below w.heap.size w w1 := bgo (w := w) (by repeat (first | (with_reducible exact Below.refl _ _) | (with_reducible assumption) | (with_reducible apply bbox) | ((with_reducible apply Below.setCell); (case hp => (first | exact Nat.le_refl _ | (simp; done) | (simp; omega) | (simp only; omega) | omega))) | (with_reducible apply Below.drew) | (with_reducible apply below_drewN))) hB1
  replace k0 := k0.next hB1
  replace k1 := k1.next hB1
  (replace qk0 := k0.cell; replace rk0 := k0.frozen; replace lk0 := k0.lt; replace qk1 := k1.cell; replace rk1 := k1.frozen; replace lk1 := k1.lt)
  clear hB1
  cases ha : a.valid
  · have E : Hid (entF a b = false) := by show _ = _; simp [entF, ha]
    clear ha
    go_wp2_with fail
    go_ret
    exact ⟨ret_bool E.out.symm, hB⟩
  · have HA := Lib.hid ha
    clear ha
    go_wp2_with fail
    refine (c_spec_AssertionValid _ b _ (hV'.out.below hB)).mono ?_
    rintro e w2 ⟨rfl, hB2⟩
    replace hB := bgo hB hB2
    replace k0 := k0.next hB2
    replace k1 := k1.next hB2
    (replace qk0 := k0.cell; replace rk0 := k0.frozen; replace lk0 := k0.lt; replace qk1 := k1.cell; replace rk1 := k1.frozen; replace lk1 := k1.lt)
    clear hB2
    cases hb : b.valid
    · have E : Hid (entF a b = false) := by show _ = _; simp [entF, hb]
      clear hb
      go_wp2_with fail
      go_ret
      exact ⟨ret_bool E.out.symm, hB⟩
    · have HB := Lib.hid hb
      have E : Hid (entF a b = (failF a b).isNone) := by show _ = _; rw [entF, HA.out, hb]; cases failF a b <;> rfl
      clear hb
      go_wp2_with fail
      refine (c_spec_l6Fails _ _ a b _ (hV.out.below hB) (hV'.out.below hB) HA.out HB.out).mono ?_
      rintro e w3 ⟨r, rfl, -, hB3⟩
      replace hB := bgo hB hB3
      clear hB3 k0 k1 qk0 qk1 rk0 rk1 lk0 lk1
      go_wp2_with fail
      go_ret
      exact ⟨ret_bool E.out.symm, hB⟩

--@ impl.Entails
set_option maxRecDepth 100000 in
set_option maxHeartbeats 3200000 in
theorem c_impl_Entails {lo hi lo' hi' : Nat} (v v' : Value) (a b : Asn) (w : World) (h : AsnV w lo hi v a) (h' : AsnV w lo' hi' v' b) (hhi : hi ≤ w.heap.size) (hhi' : hi' ≤ w.heap.size) :
    Calls Try.prog 19 #[v, v'] w fun e w' => e = .returned (.bool (entF a b)) ∧ Below w.heap.size w w' := by
  have hV := Lib.hid h
  have hV' := Lib.hid h'
  obtain ⟨A1, c1, A2, c2, rfl, -, -⟩ := h
  obtain ⟨A3, c3, A4, c4, rfl, -, -⟩ := h'
  go_enter Try.func19, Try.ntmps19
  have k0 : Blk ((w.alloc (.cells #[.slice A1 a.facts.length c1, .slice A2 a.atoms.length c2] tAs)).alloc (.cells #[.slice A3 b.facts.length c3, .slice A4 b.atoms.length c4] tAs)) w.heap.size tAs #[.slice A1 a.facts.length c1, .slice A2 a.atoms.length c2] := (by repeat (first | (with_reducible assumption) | (with_reducible exact Blk.new _ _ _) | ((with_reducible apply Blk.far); (case hp => (first | exact Nat.le_refl _ | (simp; done) | (simp; omega) | (simp only; omega) | omega))) | (with_reducible apply Blk.set_) | ((with_reducible refine Blk.newE ?_); (simp; done)) | (with_reducible apply Blk.alloc) | (with_reducible apply Blk.drew) | (with_reducible apply Blk.drewN)))
  have k1 : Blk ((w.alloc (.cells #[.slice A1 a.facts.length c1, .slice A2 a.atoms.length c2] tAs)).alloc (.cells #[.slice A3 b.facts.length c3, .slice A4 b.atoms.length c4] tAs)) (w.heap.size + 1) tAs #[.slice A3 b.facts.length c3, .slice A4 b.atoms.length c4] := (by repeat (first | (with_reducible assumption) | (with_reducible exact Blk.new _ _ _) | ((with_reducible apply Blk.far); (case hp => (first | exact Nat.le_refl _ | (simp; done) | (simp; omega) | (simp only; omega) | omega))) | (with_reducible apply Blk.set_) | ((with_reducible refine Blk.newE ?_); (simp; done)) | (with_reducible apply Blk.alloc) | (with_reducible apply Blk.drew) | (with_reducible apply Blk.drewN)))
  go_wp2_with fail
  refine (c_impl_AssertionValid _ a _ (hV.out.below (by repeat (first | (with_reducible exact Below.refl _ _) | (with_reducible assumption) | (with_reducible apply bbox) | ((with_reducible apply Below.setCell); (case hp => (first | exact Nat.le_refl _ | (simp; done) | (simp; omega) | (simp only; omega) | omega))) | (with_reducible apply Below.drew) | (with_reducible apply below_drewN))))).mono ?_
  rintro e w1 ⟨rfl, hB1⟩
  have hB : Below w.heap.size w w1 := bgo (w := w) (by repeat (first | (with_reducible exact Below.refl _ _) | (with_reducible assumption) | (with_reducible apply bbox) | ((with_reducible apply Below.setCell); (case hp => (first | exact Nat.le_refl _ | (simp; done) | (simp; omega) | (simp only; omega) | omega))) | (with_reducible apply Below.drew) | (with_reducible apply below_drewN))) hB1
  replace k0 := k0.next hB1
  replace k1 := k1.next hB1
  (replace qk0 := k0.cell; replace rk0 := k0.frozen; replace lk0 := k0.lt; replace qk1 := k1.cell; replace rk1 := k1.frozen; replace lk1 := k1.lt)
  clear hB1
  cases ha : a.valid
  · have E : Hid (entF a b = false) := by show _ = _; simp [entF, ha]
    clear ha
    go_wp2_with fail
    go_ret
    exact ⟨ret_bool E.out.symm, hB⟩
  · have HA := Lib.hid ha
    clear ha
    go_wp2_with fail
    refine (c_impl_AssertionValid _ b _ (hV'.out.below hB)).mono ?_
    rintro e w2 ⟨rfl, hB2⟩
    replace hB := bgo hB hB2
    replace k0 := k0.next hB2
    replace k1 := k1.next hB2
    (replace qk0 := k0.cell; replace rk0 := k0.frozen; replace lk0 := k0.lt; replace qk1 := k1.cell; replace rk1 := k1.frozen; replace lk1 := k1.lt)
    clear hB2
    cases hb : b.valid
    · have E : Hid (entF a b = false) := by show _ = _; simp [entF, hb]
      clear hb
      go_wp2_with fail
      go_ret
      exact ⟨ret_bool E.out.symm, hB⟩
    · have HB := Lib.hid hb
      have hz := hB.size
      have E : Hid (entF a b = (failF a b).isNone) := by show _ = _; rw [entF, HA.out, hb]; cases failF a b <;> rfl
      clear hb
      go_wp2_with fail
      refine (c_impl_failingCase _ _ a b _ (hV.out.below hB) (hV'.out.below hB) (by omega) (by omega) HA.out HB.out).mono ?_
      rintro e w3 ⟨rfl, hB3⟩
      replace hB := bgo hB hB3
      clear hB3 k0 k1 qk0 qk1 rk0 rk1 lk0 lk1
      go_wp2_with fail
      go_ret
      exact ⟨ret_bool E.out.symm, (by repeat (first | (with_reducible exact Below.refl _ _) | (with_reducible assumption) | (with_reducible apply bbox) | ((with_reducible apply Below.setCell); (case hp => (first | exact Nat.le_refl _ | (simp; done) | (simp; omega) | (simp only; omega) | omega))) | (with_reducible apply Below.drew) | (with_reducible apply below_drewN)))⟩
end Go.Proofs.Ytdhllcejahdjfaa

/- An assertion entails its tidied form, and the tidied form has no further terms. Plain; no program. -/
namespace Go.Proofs.Ytdhllcejahdjfaa
open Go Go.RowKit

/-! the filled atoms stay the same -/
theorem fill_sub {c : List Int} {x t : Int} (e : cl c x = cl c t) (z : Atm) : Atm.fill c (z.sub x t) = Atm.fill c z := by
  unfold Atm.fill Atm.sub
  simp only [swp_val (M := cl c) e]
theorem cls_sub {c : List Int} {x t : Int} (e : cl c x = cl c t) (z : Atm) : Atm.cls c (z.sub x t) = Atm.cls c z := by
  unfold Atm.cls Atm.sub
  simp only [swp_val (M := cl c) e]
theorem filledL_sub {c : List Int} {x t : Int} (e : cl c x = cl c t) (xs : List Atm) : filledL (xs.map (Atm.sub x t)) c = filledL xs c := by
  unfold filledL
  rw [List.filter_map, List.map_map, List.filter_congr (q := Atm.fill c) fun z _ => by simp [fill_sub e]]
  apply List.map_congr_left
  intro z _
  exact cls_sub e z
theorem filledL_nfA (c : List Int) (xs : List Atm) : filledL (xs.filter nfA) c = filledL xs c := by
  unfold filledL
  rw [List.filter_filter]
  congr 1
  apply List.filter_congr
  intro x _
  unfold Atm.fill nfA
  by_cases h : x.kind = 1
  · simp [h]
  · by_cases hk : x.kind = 2
    · by_cases e : x.a = x.b
      · simp [e, hk]
      · simp [e, hk]
    · simp [hk, h]
theorem filledL_subAll {K : Nat} {c : List Int} : ∀ (n : Nat) (a : Asn), (left K a).length ≤ n → Sat (cl c) a → filledL (subAll K a).atoms c = filledL a.atoms c := by
  intro n
  induction n with
  | zero =>
    intro a hn hv
    cases h : subStep K a.facts with
    | none => rw [subAll_none h]
    | some p => obtain ⟨x, t⟩ := p; have := left_lt h; omega
  | succ n ih =>
    intro a hn hv
    cases h : subStep K a.facts with
    | none => rw [subAll_none h]
    | some p =>
      obtain ⟨x, t⟩ := p
      rw [subAll_some h]
      have e : cl c x = cl c t := by
        obtain ⟨f, hf, hs⟩ := List.exists_of_findSome?_eq_some h
        have h1 := hv.facts f hf
        rw [subOf_fact hs, decide_eq_true_eq] at h1
        rcases (subOf_spec hs).2.2 with ⟨e1, e2⟩ | ⟨e1, e2⟩ <;> rw [e1, e2]
        · exact h1
        · exact h1.symm
      rw [ih _ (by have := left_lt h; omega) (hv.subst e)]
      exact filledL_sub e a.atoms
theorem filledL_tidy {K : Nat} {c : List Int} {a : Asn} (h : Sat (cl c) a) : filledL (tidyF K a).atoms c = filledL a.atoms c := by
  rw [← filledL_subAll (K := K) _ a (Nat.le_refl _) h]
  exact filledL_nfA c _

/-! separated atoms describe themselves -/
theorem findU_at {L : List Atm} (h : (L.map fun x => x.a).Nodup) {i : Nat} (hi : i < L.length) {used : List Bool} (hu : used[i]? = some false) : findU L used (L[i]).a = some i := by
  unfold findU
  refine range_find_some hi ?_ fun j hj => ?_
  · unfold freeAt
    rw [hu, List.getElem?_eq_getElem hi]
    simp
  · unfold freeAt
    rw [List.getElem?_eq_getElem (show j < L.length by omega)]
    have hne : (L[j]'(by omega)).a ≠ (L[i]).a := by
      intro e
      have h1 := List.pairwise_iff_getElem.1 h j i (by rw [List.length_map]; omega) (by rw [List.length_map]; exact hi) hj
      rw [List.getElem_map, List.getElem_map] at h1
      exact h1 e
    simp [hne]
theorem useOne_at {L : List Atm} (h : (L.map fun x => x.a).Nodup) {i : Nat} (hi : i < L.length) {used : List Bool} (hu : used[i]? = some false) : useOne L used L[i] = some (used.set i true) := by
  unfold useOne
  split
  · rw [findU_at h hi hu]
    simp [List.getElem?_eq_getElem hi]
  · unfold chainF
    rw [findU_at h hi hu]
    simp [List.getElem?_eq_getElem hi]
def firstU (n i : Nat) : List Bool := List.replicate i true ++ List.replicate (n - i) false
theorem firstU_set {n i : Nat} (hi : i < n) : (firstU n i).set i true = firstU n (i + 1) := by
  unfold firstU
  rw [List.set_append_right _ _ (by simp), List.length_replicate, Nat.sub_self, show n - i = (n - (i + 1)) + 1 from by omega, List.replicate_succ, List.set_cons_zero, List.replicate_succ', List.append_assoc]
  rfl
theorem match_drop {L : List Atm} (h : (L.map fun x => x.a).Nodup) : ∀ (k i : Nat), k + i = L.length → matchF L (firstU L.length i) (L.drop i) = some (firstU L.length L.length) := by
  intro k
  induction k with
  | zero =>
    intro i hi
    obtain rfl : i = L.length := by omega
    rw [List.drop_length]; rfl
  | succ k ih =>
    intro i hi
    rw [List.drop_eq_getElem_cons (show i < L.length by omega)]
    unfold matchF
    rw [useOne_at h (by omega) (by unfold firstU; rw [List.getElem?_append_right (by simp), List.length_replicate, Nat.sub_self, List.getElem?_replicate, if_pos (by omega)])]
    rw [Option.bind_some, firstU_set (by omega)]
    exact ih _ (by omega)
theorem matchB_self {L : List Atm} (h : (L.map fun x => x.a).Nodup) : matchB L L = true := by
  unfold matchB
  have := match_drop h L.length 0 (by omega)
  rw [List.drop_zero] at this
  rw [show List.replicate L.length false = firstU L.length 0 from by simp [firstU], this]
  simp [firstU]
theorem Sat.nodup {c : List Int} {a : Asn} (h : Sat (cl c) a) : ((filledL a.atoms c).map fun x => x.a).Nodup := by
  have := h.apart
  unfold filledL
  rw [List.map_map]
  exact this
theorem tidy_ent {K : Nat} {a : Asn} {c : List Int} (h : Sat (cl c) a) : entB a (tidyF K a) c = true := by
  unfold entB
  rw [Bool.and_eq_true]
  constructor
  · rw [List.all_eq_true]
    intro f hf
    unfold Fct.fits
    rw [beq_iff_eq]
    exact (tidy_sat (K := K) h).facts f hf
  · rw [filledL_tidy h]
    exact matchB_self h.nodup
theorem tidy_entF {K : Nat} {a : Asn} (hv : a.valid = true) : entF a (tidyF K a) = true := by
  unfold entF
  rw [hv, tidy_valid hv]
  have : failF a (tidyF K a) = none := by
    unfold failF
    rw [List.find?_eq_none]
    intro c hc
    rw [tidy_ent (case_sat hv (caseS_zero _ _) hc)]
    simp
  rw [this]; rfl

/-! no further terms -/
theorem termsL_sub2 {K : Nat} {a : Asn} {x t : Int} (h : subStep K a.facts = some (x, t)) {n : Int} (hn : n ∈ termsL (substA x t a)) : n ∈ termsL a := by
  obtain ⟨f, hf, hs⟩ := List.exists_of_findSome?_eq_some h
  have hm := termsL_facts hf
  rcases termsL_subst hn with ⟨h1, _⟩ | ⟨h1, _⟩
  · exact h1
  · rcases (subOf_spec hs).2.2 with ⟨_, e⟩ | ⟨_, e⟩ <;> rw [h1, e]
    · exact hm.2
    · exact hm.1
theorem termsL_subAll {K : Nat} : ∀ (n : Nat) (a : Asn), (left K a).length ≤ n → ∀ s ∈ termsL (subAll K a), s ∈ termsL a := by
  intro n
  induction n with
  | zero =>
    intro a hn s hs
    cases h : subStep K a.facts with
    | none => rwa [subAll_none h] at hs
    | some p => obtain ⟨x, t⟩ := p; have := left_lt h; omega
  | succ n ih =>
    intro a hn s hs
    cases h : subStep K a.facts with
    | none => rwa [subAll_none h] at hs
    | some p =>
      obtain ⟨x, t⟩ := p
      rw [subAll_some h] at hs
      exact termsL_sub2 h (ih _ (by have := left_lt h; omega) s hs)
theorem termsL_less {a b : Asn} (hf : ∀ f ∈ b.facts, ∃ g ∈ a.facts, ∀ s ∈ factT f, s ∈ factT g) (hx : ∀ x ∈ b.atoms, x ∈ a.atoms) : ∀ s ∈ termsL b, s ∈ termsL a := by
  intro s hs
  simp only [termsL, List.mem_append, List.mem_flatMap] at hs ⊢
  rcases hs with ⟨f, h1, h2⟩ | ⟨x, h1, h2⟩
  · obtain ⟨g, h3, h4⟩ := hf f h1
    exact Or.inl ⟨g, h3, h4 s h2⟩
  · exact Or.inr ⟨x, hx x h1, h2⟩
theorem termsL_normal (a : Asn) : ∀ s ∈ termsL (normalF a), s ∈ termsL a := by
  refine termsL_less (fun g hg => ?_) (fun x hx => (List.mem_filter.1 hx).1)
  rcases nfold_mem _ _ _ hg with h1 | ⟨f, hf, rfl⟩
  · cases h1
  · refine ⟨f, hf, fun s hs => ?_⟩
    unfold nfF at hs
    split at hs
    · simp only [factT, List.mem_cons, List.not_mem_nil, or_false] at hs ⊢
      exact hs.symm
    · exact hs
theorem termsL_tidy {K : Nat} {a : Asn} : ∀ s ∈ termsL (tidyF K a), s ∈ termsL a := by
  intro s hs
  refine termsL_subAll (K := K) _ a (Nat.le_refl _) s ?_
  refine termsL_less ?_ ?_ s (termsL_normal _ s hs)
  · intro f hf
    exact ⟨f, (List.mem_filter.1 hf).1, fun _ h => h⟩
  · exact fun _ h => h
/-- the terms of a valid assertion in ascending order; none of another one -/
def atermsL (a : Asn) : List Int := if a.valid then ((List.range 9).filter fun n => (tset (termsL a)).testBit n).map fun n : Nat => (n : Int) else []
theorem atermsL_mem {a : Asn} (hv : a.valid = true) {s : Int} : s ∈ atermsL a ↔ ∃ n : Nat, n < 9 ∧ (tset (termsL a)).testBit n = true ∧ (n : Int) = s := by
  unfold atermsL
  rw [if_pos hv]
  simp [and_assoc]
theorem aterms_tidy {K : Nat} {a : Asn} (hv : a.valid = true) : ∀ s ∈ atermsL (tidyF K a), s ∈ [0] ++ atermsL a := by
  intro s hs
  rw [atermsL_mem (tidy_valid hv)] at hs
  obtain ⟨n, h1, h2, rfl⟩ := hs
  refine List.mem_append_right _ ((atermsL_mem hv).2 ⟨n, h1, ?_, rfl⟩)
  rw [tset_bit, decide_eq_true_eq] at h2 ⊢
  exact ⟨h2.1, termsL_tidy _ h2.2⟩
end Go.Proofs.Ytdhllcejahdjfaa

/- Contracts: the list of the terms of an assertion; the laws' search of a list. -/
namespace Go.Proofs.Ytdhllcejahdjfaa
open Go Go.RowKit Go.Proofs
attribute [local go_sem ↓] Go.wp_at_zero Go.wp_at_succ

--@ impl.termSet.list
def tlistL (S k : Nat) : List Int := ((List.range k).filter fun n => S.testBit n).map fun n : Nat => (n : Int)
theorem tlistL_succ (S k : Nat) : tlistL S (k + 1) = tlistL S k ++ if S.testBit k then [(k : Int)] else [] := by
  unfold tlistL
  rw [List.range_succ, List.filter_append, List.map_append]
  cases h : S.testBit k <;> simp [h]
theorem tlistL_length (S k : Nat) : (tlistL S k).length ≤ k := by
  unfold tlistL
  rw [List.length_map]
  exact Nat.le_trans (List.length_filter_le _ _) (by simp)
set_option maxHeartbeats 1600000 in
theorem c_impl_termList (S : Nat) (w : World) (hS : S < 512) : Calls Try.prog 79 #[.int .u16 S] w fun e w' => ∃ r, e = .returned r ∧ IntsO w' w.heap.size r (tlistL S 9) ∧ Below w.heap.size w w' := by
  have HS := Lib.hid hS
  clear hS
  go_enter Try.func79, Try.ntmps79
  go_wp2
  go_loopw [3, 4] (fun o i wr => ∃ (k : Nat) (A : Option Addr) (c : Nat), k ≤ 9 ∧ i = .int .i64 k ∧ o = .slice A (tlistL S k).length c ∧ IntsO wr w.heap.size (.slice A (tlistL S k).length c) (tlistL S k) ∧ Below w.heap.size w wr) (fun _ i _ => 9 - (intOf i).toNat)
  case atStart => exact ⟨0, none, 0, by omega, rfl, rfl, IntsO.nil _ _, (by repeat (first | (with_reducible exact Below.refl _ _) | (with_reducible assumption) | (with_reducible apply bbox) | ((with_reducible apply Below.setCell); (case hp => (first | exact Nat.le_refl _ | (simp; done) | (simp; omega) | (simp only; omega) | omega))) | (with_reducible apply Below.drew) | (with_reducible apply below_drewN)))⟩
  case round =>
    obtain ⟨k, A, c, hk, rfl, rfl, hO, hB⟩ := hrel
    have hlen := tlistL_length S k
    by_cases h8 : k < 9
    · have hv : isTermB (k : Int) = true := isTermB_iff.2 (by omega)
      have HC := Lib.hid (tlistL_succ S k)
      have hki : (k : Int) ≤ 8 := by omega
      cases ht : S.testBit k
      · go_wp2_with fail
        refine (c_impl_tHas S _ _ HS.out).mono ?_
        rintro e w' ⟨rfl, rfl⟩
        rw [hv, Int.toNat_natCast, ht]
        go_wp2_with fail
        go_round
        case rel =>
          have e : tlistL S (k + 1) = tlistL S k := by rw [HC.out, ht]; simp
          exact ⟨k + 1, A, c, by omega, by go_num, by rw [e], by rw [e]; exact hO, hB⟩
        case measure => simp [intOf]; omega
      · go_wp2_with fail
        refine (c_impl_tHas S _ _ HS.out).mono ?_
        rintro e w' ⟨rfl, rfl⟩
        rw [hv, Int.toNat_natCast, ht]
        go_wp2_with (at_builtin; refine appI rfl _ _ rfl (v := .slice A (tlistL S k).length c) rfl (hO.abv (Abv.alloc (Abv.refl 0 _) _) (Nat.zero_le _)) wr.heap.size _ rfl (cell_box wr _ _) (by omega) (by simp; have := hB.size; omega) ?_; intro g' c' w2 hO2 hg2 hB3)
        go_round
        case rel =>
          have e : tlistL S (k + 1) = tlistL S k ++ [(k : Int)] := by rw [HC.out, ht]; simp
          exact ⟨k + 1, some ⟨g', 0, none⟩, c', by omega, by go_num, by rw [e, List.length_append]; rfl, by rw [e]; simpa using hO2, Below.trans (bbox hB _) hB3⟩
        case measure => simp [intOf]; omega
    · obtain rfl : k = 9 := by omega
      go_wp2
      go_ret
      exact ⟨_, rfl, hO, hB⟩

--@ impl.AssertionTerms
set_option maxRecDepth 100000 in
set_option maxHeartbeats 3200000 in
theorem c_impl_AssertionTerms {lo hi : Nat} (v : Value) (a : Asn) (w : World) (h : AsnV w lo hi v a) :
    Calls Try.prog 17 #[v] w fun e w' => ∃ r, e = .returned r ∧ IntsO w' w.heap.size r (atermsL a) ∧ Below w.heap.size w w' := by
  have hV := Lib.hid h
  obtain ⟨A1, c1, A2, c2, rfl, -, -⟩ := h
  go_enter Try.func17, Try.ntmps17
  have k0 : Blk (w.alloc (.cells #[.slice A1 a.facts.length c1, .slice A2 a.atoms.length c2] tAs)) w.heap.size tAs #[.slice A1 a.facts.length c1, .slice A2 a.atoms.length c2] := (by repeat (first | (with_reducible assumption) | (with_reducible exact Blk.new _ _ _) | ((with_reducible apply Blk.far); (case hp => (first | exact Nat.le_refl _ | (simp; done) | (simp; omega) | (simp only; omega) | omega))) | (with_reducible apply Blk.set_) | ((with_reducible refine Blk.newE ?_); (simp; done)) | (with_reducible apply Blk.alloc) | (with_reducible apply Blk.drew) | (with_reducible apply Blk.drewN)))
  go_wp2_with fail
  refine (c_impl_AssertionValid _ a _ (hV.out.below (by repeat (first | (with_reducible exact Below.refl _ _) | (with_reducible assumption) | (with_reducible apply bbox) | ((with_reducible apply Below.setCell); (case hp => (first | exact Nat.le_refl _ | (simp; done) | (simp; omega) | (simp only; omega) | omega))) | (with_reducible apply Below.drew) | (with_reducible apply below_drewN))))).mono ?_
  rintro e w1 ⟨rfl, hB1⟩
  have hB : Below w.heap.size w w1 := bgo (w := w) (by repeat (first | (with_reducible exact Below.refl _ _) | (with_reducible assumption) | (with_reducible apply bbox) | ((with_reducible apply Below.setCell); (case hp => (first | exact Nat.le_refl _ | (simp; done) | (simp; omega) | (simp only; omega) | omega))) | (with_reducible apply Below.drew) | (with_reducible apply below_drewN))) hB1
  replace k0 := k0.next hB1
  (replace qk0 := k0.cell; replace rk0 := k0.frozen; replace lk0 := k0.lt)
  clear hB1
  have hz := hB.size
  cases ha : a.valid
  · have E : Hid (atermsL a = []) := by show _ = _; simp [atermsL, ha]
    clear ha
    go_wp2_with fail
    go_ret
    exact ⟨_, rfl, by rw [E.out]; exact IntsO.nil _ _, (by repeat (first | (with_reducible exact Below.refl _ _) | (with_reducible assumption) | (with_reducible apply bbox) | ((with_reducible apply Below.setCell); (case hp => (first | exact Nat.le_refl _ | (simp; done) | (simp; omega) | (simp only; omega) | omega))) | (with_reducible apply Below.drew) | (with_reducible apply below_drewN)))⟩
  · have E : Hid (atermsL a = tlistL (tset (termsL a)) 9) := by show _ = _; simp [atermsL, ha, tlistL]
    clear ha
    go_wp2_with fail
    refine (c_impl_termsIn _ a _ (hV.out.below hB)).mono ?_
    rintro e w2 ⟨rfl, hB2⟩
    replace hB := bgo hB hB2
    replace k0 := k0.next hB2
    clear hB2
    go_wp2_with fail
    refine (c_impl_termList (tset (termsL a)) _ (tset_lt _)).mono ?_
    rintro e w3 ⟨r, rfl, o3, hB3⟩
    have O3 := Lib.hid (o3.lower hB.size)
    replace hB := bgo hB hB3
    clear hB3 o3 k0 qk0 rk0 lk0
    go_wp2_with fail
    go_ret
    exact ⟨r, rfl, by rw [E.out]; exact O3.out, hB⟩

--@ laws.slHas
set_option maxRecDepth 100000 in
set_option maxHeartbeats 1600000 in
theorem c_slHas {lo hi : Nat} (A : Option Addr) (c : Nat) (fs : List Int) (n : Int) (w : World) (h : IntsV w lo hi A fs) : Calls Try.prog 18 #[.slice A fs.length c, .int .i64 n] w fun e w' => e = .returned (.bool (decide (n ∈ fs))) ∧ Below w.heap.size w w' := by
  have H := Lib.hid h
  have HL := Lib.hid h.le
  clear h
  go_enter Try.func18, Try.ntmps18
  go_wp2_with fail
  go_loopw [5] (fun i wr => ∃ k : Nat, k ≤ fs.length ∧ i = .int .i64 k ∧ Hid (decide (n ∈ fs) = decide (n ∈ fs.drop k)) ∧ Hid (Below w.heap.size w wr)) (fun i _ => fs.length - (intOf i).toNat)
  case atStart => exact ⟨0, Nat.zero_le _, rfl, by show _ = _; simp, Below.refl _ _⟩
  case round =>
    obtain ⟨k, hk, rfl, HA, HB⟩ := hrel
    have hl := HL.out
    by_cases hlt : k < fs.length
    · obtain ⟨b, off, rfl, g0⟩ := (H.out.below HB.out).at hlt
      have HD : Hid (decide (n ∈ fs.drop k) = (decide (fs[k] = n) || decide (n ∈ fs.drop (k + 1)))) := by
        show _ = _
        rw [List.drop_eq_getElem_cons hlt, ← Bool.decide_or, decide_eq_decide, List.mem_cons]
        constructor
        · rintro (h | h)
          · exact Or.inl h.symm
          · exact Or.inr h
        · rintro (h | h)
          · exact Or.inl h.symm
          · exact Or.inr h
      have hki : (k : Int) < (fs.length : Int) := by omega
      obtain ⟨f, hf⟩ : ∃ f, f = fs[k] := ⟨_, rfl⟩
      rw [← hf] at g0 HD
      clear hf
      by_cases f1 : f = n
      · have E : Hid (decide (f = n) = true) := by show _ = _; rw [decide_eq_true_eq]; exact f1
        rw [f1] at g0
        clear f1
        go_wp2_with fail
        go_ret
        exact ⟨ret_bool (by rw [HA.out, HD.out, E.out]; rfl), HB.out⟩
      · have E : Hid (decide (f = n) = false) := by show _ = _; rw [decide_eq_false_iff_not]; exact f1
        have e1 : (f == n) = false := by simpa using f1
        clear f1
        go_wp2_with fail
        go_round
        case rel => exact ⟨k + 1, by omega, by go_num, by show _ = _; rw [HA.out, HD.out, E.out]; rfl, HB.out⟩
        case measure => simp [intOf]; omega
    · obtain rfl : k = fs.length := by omega
      have E : Hid (decide (n ∈ fs) = false) := by show _ = _; rw [HA.out, List.drop_length]; simp
      go_wp2_with fail
      go_ret
      exact ⟨ret_bool E.out.symm, HB.out⟩
end Go.Proofs.Ytdhllcejahdjfaa

/- 'laws.FnTidyAssertion' returns true for all bytes that can be read. -/
namespace Go.Proofs.Ytdhllcejahdjfaa
open Go Go.RowKit Go.Proofs
attribute [local go_sem ↓] Go.wp_at_zero Go.wp_at_succ

--@ laws.FnTidyAssertion
def keptT (ks : List Int) (a : Asn) : Asn := if a.valid then tidyF (tset ks) a else ⟨[], []⟩
theorem kept_tidy (ks : List Int) (a : Asn) : (tidyA (tset ks) a).isSome = a.valid ∧ (tidyA (tset ks) a).getD ⟨[], []⟩ = keptT ks a := by
  unfold tidyA keptT
  cases hv : a.valid <;> exact ⟨rfl, rfl⟩
theorem c_sameW {lo hi lo' hi' : Nat} (v v' : Value) (a : Asn) (w : World) (h : AsnV w lo hi v a) (h' : AsnV w lo' hi' v' a) : Calls Try.prog 16 #[v, v'] w fun e w' => e = .returned (.bool true) ∧ Below w.heap.size w w' := by
  have := c_impl_Same v v' a a w h h'
  rwa [decide_eq_true (Eq.refl a)] at this
theorem tidyBW : tidyB = tidyA := rfl
theorem atermsL_len (a : Asn) : (atermsL a).length ≤ 9 := by
  unfold atermsL
  split
  · exact tlistL_length _ 9
  · simp
theorem AsnV.tightW {w : World} {lo hi : Nat} {v : Value} {a : Asn} (h : AsnV w lo hi v a) : AsnV w 0 w.heap.size v a := by
  obtain ⟨A1, c1, A2, c2, e, h1, h2⟩ := h
  exact ⟨A1, c1, A2, c2, e, h1.tight, h2.tight⟩
theorem c_entT {lo hi lo' hi' : Nat} (v v' : Value) (a b : Asn) (w : World) (h : AsnV w lo hi v a) (h' : AsnV w lo' hi' v' b) (he : entF a b = true) : Calls Try.prog 19 #[v, v'] w fun e w' => e = .returned (.bool true) ∧ Below w.heap.size w w' := by
  have := c_impl_Entails v v' a b w h.tightW h'.tightW (Nat.le_refl _) (Nat.le_refl _)
  rwa [he] at this
set_option maxRecDepth 100000 in
set_option maxHeartbeats 6400000 in
theorem c_FnTidyAssertion (v : Value) (A : Option Addr × Nat × Nat) (w : World) (h : v = .slice A.1 A.2.1 A.2.2 ∧ BytesR w A.1 A.2.1 A.2.2) : Calls Try.prog 3 #[v] w fun e w' => e = .returned (.bool true) ∧ Below w.heap.size w w' := by
  obtain ⟨A, n, c⟩ := A
  obtain ⟨rfl, hR⟩ := h
  simp only at hR ⊢
  have HR := Lib.hid hR
  clear hR
  by_cases hn : 1048576 < n
  · have hni : (1048576 : Int) < (n : Int) := by omega
    clear hn
    go_enter Try.func3, Try.ntmps3
    go_wp2_with fail
    go_ret
    exact ⟨rfl, (by repeat (first | (with_reducible exact Below.refl _ _) | (with_reducible assumption) | (with_reducible apply bbox) | ((with_reducible apply Below.setCell); (case hp => (first | exact Nat.le_refl _ | (simp; done) | (simp; omega) | (simp only; omega) | omega))) | (with_reducible apply Below.drew) | (with_reducible apply below_drewN)))⟩
  have hni : ¬ (1048576 : Int) < (n : Int) := by omega
  clear hn
  go_enter Try.func3, Try.ntmps3
  go_wp2_with fail
  refine (c_DrawTidy A n c _ HR.out).mono ?_
  rintro e w1 ⟨r, kv, a, ks, rfl, oa, ok, hl1, hl2, hl3, hB1⟩
  clear hni HR
  have HB1 := Lib.hid hB1
  have hz1 := hB1.size
  obtain ⟨fv, av, rfl, of1, oa1⟩ := oa
  obtain ⟨F, e1, rfl, -⟩ := of1.reads
  obtain ⟨G, e2, rfl, -⟩ := oa1.reads
  obtain ⟨K, ck, rfl, fK⟩ := ok.reads
  have HVA : Hid (AsnV w1 w.heap.size w1.heap.size (.agg #[.slice F a.facts.length e1, .slice G a.atoms.length e2]) a) := AsnO.reads ⟨_, _, rfl, of1, oa1⟩
  have HVK := Lib.hid fK
  clear hB1 of1 oa1 ok fK hl1 hl2 hl3
  have ka : Blk (w1.alloc (.cells #[.slice F a.facts.length e1, .slice G a.atoms.length e2] 26)) w1.heap.size 26 #[.slice F a.facts.length e1, .slice G a.atoms.length e2] := by exact (by repeat (first | (with_reducible assumption) | (with_reducible exact Blk.new _ _ _) | ((with_reducible apply Blk.far); (case hp => (first | exact Nat.le_refl _ | (simp; done) | (simp; omega) | (simp only; omega) | omega))) | (with_reducible apply Blk.set_) | ((with_reducible refine Blk.newE ?_); (simp; done)) | (with_reducible apply Blk.alloc) | (with_reducible apply Blk.drew) | (with_reducible apply Blk.drewN)))
  have HEA := Lib.hid (kept_tidy ks a)
  obtain ⟨C, hC⟩ : ∃ C, C = keptT ks a := ⟨_, rfl⟩
  have HC := Lib.hid hC
  rw [← hC] at HEA
  clear hC
  have hT := c_impl_TidyAssertion (.agg #[.slice F a.facts.length e1, .slice G a.atoms.length e2]) a K ck ks _ (HVA.out.below (w' := w1.alloc (.cells #[.slice F a.facts.length e1, .slice G a.atoms.length e2] 26)) (by repeat (first | (with_reducible exact Below.refl _ _) | (with_reducible assumption) | (with_reducible apply bbox) | ((with_reducible apply Below.setCell); (case hp => (first | exact Nat.le_refl _ | (simp; done) | (simp; omega) | (simp only; omega) | omega))) | (with_reducible apply Below.drew) | (with_reducible apply below_drewN)))) (HVK.out.below (by repeat (first | (with_reducible exact Below.refl _ _) | (with_reducible assumption) | (with_reducible apply bbox) | ((with_reducible apply Below.setCell); (case hp => (first | exact Nat.le_refl _ | (simp; done) | (simp; omega) | (simp only; omega) | omega))) | (with_reducible apply Below.drew) | (with_reducible apply below_drewN))))
  rw [HEA.out.1, HEA.out.2] at hT
  have HT := Lib.hid hT
  clear hT
  go_wp2_with fail
  refine HT.out.mono ?_
  rintro e w2 ⟨r2, rfl, o2, hB2⟩
  clear HT
  have hB := hB2.size
  replace ka := ka.next hB2
  have HB2 : Hid (Below w1.heap.size w1 w2) := bgo (w := w1) (by repeat (first | (with_reducible exact Below.refl _ _) | (with_reducible assumption) | (with_reducible apply bbox) | ((with_reducible apply Below.setCell); (case hp => (first | exact Nat.le_refl _ | (simp; done) | (simp; omega) | (simp only; omega) | omega))) | (with_reducible apply Below.drew) | (with_reducible apply below_drewN))) hB2
  obtain ⟨fv, av, rfl, of2, oa2⟩ := o2
  obtain ⟨F2, d2, rfl, -⟩ := of2.reads
  obtain ⟨G2, g2, rfl, -⟩ := oa2.reads
  have HV2 : Hid (AsnV w2 0 w2.heap.size (.agg #[.slice F2 C.facts.length d2, .slice G2 C.atoms.length g2]) C) := (AsnO.reads ⟨_, _, rfl, of2, oa2⟩).mono (Nat.zero_le _) (Nat.le_refl _)
  have HVA2 := Lib.hid (HVA.out.below HB2.out)
  have HVK2 := Lib.hid (HVK.out.below HB2.out)
  have hab : w1.heap.size < w2.heap.size := by exact ka.lt
  replace ka : Blk (w2.alloc (.cells #[.slice F2 C.facts.length d2, .slice G2 C.atoms.length g2] 26)) w1.heap.size 26 #[.slice F a.facts.length e1, .slice G a.atoms.length e2] := ka.alloc _
  have kb : Blk (w2.alloc (.cells #[.slice F2 C.facts.length d2, .slice G2 C.atoms.length g2] 26)) w2.heap.size 26 #[.slice F2 C.facts.length d2, .slice G2 C.atoms.length g2] := by exact Blk.new _ _ _
  clear of2 oa2 hB2 HVA HVK hB
  (replace qka := ka.cell; replace rka := ka.frozen; replace lka := ka.lt; replace qkb := kb.cell; replace rkb := kb.frozen; replace lkb := kb.lt)
  have hT := c_spec_TidyAssertion (.agg #[.slice F a.facts.length e1, .slice G a.atoms.length e2]) a K ck ks _ (HVA2.out.below (w' := w2.alloc (.cells #[.slice F2 C.facts.length d2, .slice G2 C.atoms.length g2] 26)) (by repeat (first | (with_reducible exact Below.refl _ _) | (with_reducible assumption) | (with_reducible apply bbox) | ((with_reducible apply Below.setCell); (case hp => (first | exact Nat.le_refl _ | (simp; done) | (simp; omega) | (simp only; omega) | omega))) | (with_reducible apply Below.drew) | (with_reducible apply below_drewN)))) (HVK2.out.below (by repeat (first | (with_reducible exact Below.refl _ _) | (with_reducible assumption) | (with_reducible apply bbox) | ((with_reducible apply Below.setCell); (case hp => (first | exact Nat.le_refl _ | (simp; done) | (simp; omega) | (simp only; omega) | omega))) | (with_reducible apply Below.drew) | (with_reducible apply below_drewN))))
  rw [tidyBW, HEA.out.1, HEA.out.2] at hT
  have HT := Lib.hid hT
  clear hT
  go_wp2_with fail
  refine HT.out.mono ?_
  rintro e w3 ⟨r3, rfl, o3, hB3⟩
  clear HT
  replace ka := ka.next hB3
  replace kb := kb.next hB3
  have HB3 : Hid (Below w2.heap.size w2 w3) := bgo (w := w2) (by repeat (first | (with_reducible exact Below.refl _ _) | (with_reducible assumption) | (with_reducible apply bbox) | ((with_reducible apply Below.setCell); (case hp => (first | exact Nat.le_refl _ | (simp; done) | (simp; omega) | (simp only; omega) | omega))) | (with_reducible apply Below.drew) | (with_reducible apply below_drewN))) hB3
  obtain ⟨fv, av, rfl, of3, oa3⟩ := o3
  obtain ⟨F3, d3, rfl, -⟩ := of3.reads
  obtain ⟨G3, g3, rfl, -⟩ := oa3.reads
  have HV3 : Hid (AsnV w3 0 w3.heap.size (.agg #[.slice F3 C.facts.length d3, .slice G3 C.atoms.length g3]) C) := (AsnO.reads ⟨_, _, rfl, of3, oa3⟩).mono (Nat.zero_le _) (Nat.le_refl _)
  have HVA3 := Lib.hid (HVA2.out.below HB3.out)
  have HVK3 := Lib.hid (HVK2.out.below HB3.out)
  have HVB3 := Lib.hid (HV2.out.below HB3.out)
  have hbc : w2.heap.size < w3.heap.size := by exact kb.lt
  replace ka := ka.alloc (.cells #[.slice F3 C.facts.length d3, .slice G3 C.atoms.length g3] 26)
  replace kb := kb.alloc (.cells #[.slice F3 C.facts.length d3, .slice G3 C.atoms.length g3] 26)
  have kc : Blk (w3.alloc (.cells #[.slice F3 C.facts.length d3, .slice G3 C.atoms.length g3] 26)) w3.heap.size 26 #[.slice F3 C.facts.length d3, .slice G3 C.atoms.length g3] := by exact Blk.new _ _ _
  clear of3 oa3 hB3 HVA2 HVK2 HV2
  (replace qka := ka.cell; replace rka := ka.frozen; replace lka := ka.lt; replace qkb := kb.cell; replace rkb := kb.frozen; replace lkb := kb.lt; replace qkc := kc.cell; replace rkc := kc.frozen; replace lkc := kc.lt)
  have hS := c_impl_Same _ _ C C _ (HVB3.out.below (w' := w3.alloc (.cells #[.slice F3 C.facts.length d3, .slice G3 C.atoms.length g3] 26)) (by repeat (first | (with_reducible exact Below.refl _ _) | (with_reducible assumption) | (with_reducible apply bbox) | ((with_reducible apply Below.setCell); (case hp => (first | exact Nat.le_refl _ | (simp; done) | (simp; omega) | (simp only; omega) | omega))) | (with_reducible apply Below.drew) | (with_reducible apply below_drewN)))) (HV3.out.below (by repeat (first | (with_reducible exact Below.refl _ _) | (with_reducible assumption) | (with_reducible apply bbox) | ((with_reducible apply Below.setCell); (case hp => (first | exact Nat.le_refl _ | (simp; done) | (simp; omega) | (simp only; omega) | omega))) | (with_reducible apply Below.drew) | (with_reducible apply below_drewN))))
  rw [decide_eq_true (Eq.refl C)] at hS
  have HS := Lib.hid hS
  clear hS
  have hne : (a.valid != a.valid) = false := by simp
  go_wp2_with fail
  refine HS.out.mono ?_
  rintro e w4 ⟨rfl, hB4⟩
  clear HS
  replace ka := ka.next hB4
  replace kb := kb.next hB4
  replace kc := kc.next hB4
  have HB4 : Hid (Below w3.heap.size w3 w4) := bgo (w := w3) (by repeat (first | (with_reducible exact Below.refl _ _) | (with_reducible assumption) | (with_reducible apply bbox) | ((with_reducible apply Below.setCell); (case hp => (first | exact Nat.le_refl _ | (simp; done) | (simp; omega) | (simp only; omega) | omega))) | (with_reducible apply Below.drew) | (with_reducible apply below_drewN))) hB4
  have HBw4 : Hid (Below w.heap.size w w4) := bgo (bgo (bgo HB1.out HB2.out) HB3.out) HB4.out
  have HVA4 := Lib.hid (HVA3.out.below HB4.out)
  have HVK4 := Lib.hid (HVK3.out.below HB4.out)
  have HVB4 := Lib.hid (HVB3.out.below HB4.out)
  have HVC4 := Lib.hid (HV3.out.below HB4.out)
  clear hB4 HVA3 HVK3 HVB3 HV3 HB1 HB2 HB3 HB4
  (replace qka := ka.cell; replace rka := ka.frozen; replace lka := ka.lt; replace qkb := kb.cell; replace rkb := kb.frozen; replace lkb := kb.lt; replace qkc := kc.cell; replace rkc := kc.frozen; replace lkc := kc.lt)
  cases hv : a.valid
  · clear hv hne
    go_wp2_with fail
    refine (c_sameW _ _ C _ HVB4.out HVC4.out).mono ?_
    rintro e w5 ⟨rfl, hB5⟩
    go_wp2_with fail
    go_ret
    exact ⟨rfl, bgo HBw4.out hB5⟩
  have HV := Lib.hid hv
  have ka4 := ka.lt
  have kb4 := kb.lt
  clear hv hne kc qkc rkc lkc HVC4
  go_wp2_with fail
  refine (c_impl_AssertionTerms _ a _ (HVA4.out.below (by repeat (first | (with_reducible exact Below.refl _ _) | (with_reducible assumption) | (with_reducible apply bbox) | ((with_reducible apply Below.setCell); (case hp => (first | exact Nat.le_refl _ | (simp; done) | (simp; omega) | (simp only; omega) | omega))) | (with_reducible apply Below.drew) | (with_reducible apply below_drewN))))).mono ?_
  rintro e w5 ⟨r5, rfl, o5, hB5⟩
  obtain ⟨A5, c5, rfl, f5⟩ := o5.reads
  have H5 := Lib.hid f5
  have HL := Lib.hid (atermsL_len a)
  replace ka := (ka.alloc (.cells #[.int .i64 0] tI)).next hB5
  replace kb := (kb.alloc (.cells #[.int .i64 0] tI)).next hB5
  have HO5 := Lib.hid ((IntsO.one w4 0 (Nat.le_refl _)).below hB5)
  have hB5' : Below w4.heap.size w4 w5 := Below.trans (by repeat (first | (with_reducible exact Below.refl _ _) | (with_reducible assumption) | (with_reducible apply bbox) | ((with_reducible apply Below.setCell); (case hp => (first | exact Nat.le_refl _ | (simp; done) | (simp; omega) | (simp only; omega) | omega))) | (with_reducible apply Below.drew) | (with_reducible apply below_drewN))) (hB5.mono (by simp))
  have HB5 := Lib.hid hB5'
  have hz5 := hB5'.size
  clear o5 f5 hB5 hB5'
  obtain ⟨L, hL⟩ : ∃ L, L = [0] ++ atermsL a := ⟨_, rfl⟩
  have HLL : Hid (L.length ≤ 10) := by show _ ≤ _; rw [hL]; have := HL.out; simp; omega
  have hCV : C = tidyF (tset ks) a := by rw [HC.out]; unfold keptT; rw [HV.out]; rfl
  have HM : Hid (∀ s ∈ atermsL C, s ∈ L) := by show ∀ s ∈ _, _; rw [hL, hCV]; exact aterms_tidy HV.out
  have HEN : Hid (entF a C = true ∧ C.valid = true) := by show _ ∧ _; rw [hCV]; exact ⟨tidy_entF HV.out, tidy_valid HV.out⟩
  have HLC := Lib.hid (atermsL_len C)
  clear hCV
  go_wp2_with (at_builtin; refine appIL (ys := atermsL a) (base := w4.heap.size) rfl _ _ rfl (v := .slice (some ⟨w4.heap.size, 0, none⟩) 1 1) rfl HO5.out rfl H5.out (by have := HL.out; simp; omega) hz5 ?_; intro A6 c6 w6 o6 hg6 hB6; replace ka := ka.below hB6 ka4; replace kb := kb.below hB6 kb4; have qka := ka.cell; have qkb := kb.cell)
  have eL : (atermsL a).length + 1 = L.length := by rw [hL]; simp
  try rw [eL] at o6
  try rw [← hL] at o6
  rw [eL]
  clear hL eL
  have HB6 : Hid (Below w4.heap.size w4 w6) := Below.trans HB5.out hB6
  have HBw6 : Hid (Below w.heap.size w w6) := bgo HBw4.out HB6.out
  have HVA6 := Lib.hid (HVA4.out.below HB6.out)
  have HVB6 := Lib.hid (HVB4.out.below HB6.out)
  obtain ⟨-, f6⟩ := o6.readsI
  have H6 := Lib.hid f6
  clear o6 hg6 hB6 H5 HO5 HB5 HVA4 HVB4 HBw4 HB6 hz5 f6
  refine (c_impl_AssertionTerms _ C _ HVB6.out).mono ?_
  rintro e w7 ⟨r7, rfl, o7, hB7⟩
  obtain ⟨A7, c7, rfl, f7⟩ := o7.reads
  have H7 := Lib.hid f7
  have H67 := Lib.hid (H6.out.below hB7)
  have HBw7 : Hid (Below w.heap.size w w7) := bgo HBw6.out hB7
  have HVA7 := Lib.hid (HVA6.out.below hB7)
  have HVB7 := Lib.hid (HVB6.out.below hB7)
  replace ka := ka.next hB7
  replace kb := kb.next hB7
  have KA := Lib.hid ka
  have KB := Lib.hid kb
  clear o7 f7 hB7 H6 HBw6 HVA6 HVB6 ka kb qka qkb
  obtain ⟨M, hM⟩ : ∃ M, M = atermsL C := ⟨_, rfl⟩
  rw [← hM] at H7 HM HLC ⊢
  clear hM
  go_wp2_with fail
  go_loopw [11] (fun i wr => ∃ k : Nat, k ≤ M.length ∧ i = .int .i64 k ∧ Hid (Below w7.heap.size w7 wr)) (fun i _ => M.length - (intOf i).toNat)
  case atStart => exact ⟨0, Nat.zero_le _, rfl, Below.refl _ _⟩
  case round =>
    obtain ⟨k, hk, rfl, HB⟩ := hrel
    have hml := HLC.out
    by_cases hlt : k < M.length
    · obtain ⟨b, off, rfl, g0⟩ := (H7.out.below HB.out).at hlt
      have hki : (k : Int) < (M.length : Int) := by omega
      obtain ⟨f, hf⟩ : ∃ f, f = M[k] := ⟨_, rfl⟩
      have HMF : Hid (f ∈ L) := by show _ ∈ _; rw [hf]; exact HM.out _ (List.getElem_mem hlt)
      rw [← hf] at g0
      clear hf
      go_wp2_with fail
      refine (c_slHas A6 c6 L f _ (H67.out.below HB.out)).mono ?_
      rintro e w8 ⟨rfl, hB8⟩
      rw [decide_eq_true HMF.out]
      have HB8 := Lib.hid (bgo HB.out hB8)
      clear hB8 HB g0
      go_wp2_with fail
      go_round
      case rel => exact ⟨k + 1, by omega, by go_num, HB8.out⟩
      case measure => simp [intOf]; omega
    · obtain rfl : k = M.length := by omega
      have ka := KA.out.below HB.out KA.out.lt
      have kb := KB.out.below HB.out KB.out.lt
      (replace qka := ka.cell; replace rka := ka.frozen; replace lka := ka.lt; replace qkb := kb.cell; replace rkb := kb.frozen; replace lkb := kb.lt)
      have HVA8 := Lib.hid (HVA7.out.below HB.out)
      have HVB8 := Lib.hid (HVB7.out.below HB.out)
      have HBw8 := Lib.hid (bgo HBw7.out HB.out)
      clear hk HB
      go_wp2_with fail
      refine (c_entT _ _ a C _ HVA8.out HVB8.out HEN.out.1).mono ?_
      rintro e w9 ⟨rfl, hB9⟩
      replace ka := ka.next hB9
      replace kb := kb.next hB9
      (replace qka := ka.cell; replace rka := ka.frozen; replace lka := ka.lt; replace qkb := kb.cell; replace rkb := kb.frozen; replace lkb := kb.lt)
      have HVB9 := Lib.hid (HVB8.out.below hB9)
      have HBw9 := Lib.hid (bgo HBw8.out hB9)
      clear hB9
      go_wp2_with fail
      refine (c_impl_AssertionValid _ C _ HVB9.out).mono ?_
      rintro e w10 ⟨rfl, hB10⟩
      rw [HEN.out.2]
      have HBw10 := Lib.hid (bgo HBw9.out hB10)
      clear hB10
      go_wp2_with fail
      go_ret
      exact ⟨rfl, HBw10.out⟩
end Go.Proofs.Ytdhllcejahdjfaa
