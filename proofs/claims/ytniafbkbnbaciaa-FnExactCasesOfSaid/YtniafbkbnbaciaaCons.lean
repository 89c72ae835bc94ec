/- Contracts: the spec's Consistent; facts added; SymTest. -/
import Derived.Test.YtniafbkbnbaciaaFirst
import Derived.Test.YtniafbkbnbaciaaKit
import Derived.Deep.RegionHeld3
namespace Go.Proofs.Ytniafbkbnbaciaa
open Go Go.RowKit Go.Proofs
attribute [local go_sem ↓] Go.wp_at_zero Go.wp_at_succ

theorem seek_congr (a : Asn) {S S' : Nat} (h : ∀ j, 1 ≤ j → j < 9 → S.testBit j = S'.testBit j) : ∀ (n : Nat) (c : List Int), n ≤ 8 → seek a S n c = seek a S' n c := by
  intro n
  induction n with
  | zero => intro c _; rfl
  | succ n ih =>
    intro c hn
    unfold seek
    rw [h (8 - n) (by omega) (by omega)]
    have e : ∀ c', seek a S n c' = seek a S' n c' := fun c' => ih c' (by omega)
    split
    · split
      · apply flatMap_congr'
        intro k _
        rw [e]
      · exact e _
    · rfl
/-- the spec's search for the terms of S (nil's bit does not matter) gives the cases -/
theorem seek_caseS {a : Asn} (hv : a.valid = true) (F S : Nat) (h : ∀ j, 1 ≤ j → j < 9 → S.testBit j = (caseS a F).testBit j) : seek a S 8 opened = cases a (caseS a F) := by
  rw [seek_congr a h 8 opened (by omega)]
  exact seek_cases (Asn.valid_ok hv).1 (Asn.valid_ok hv).2 (caseS_zero a F) (caseS_not hv F)
theorem seek_terms {a : Asn} (hv : a.valid = true) : seek a (tset (termsL a)) 8 opened = cases a (caseS a 0) := by
  refine seek_caseS hv 0 _ fun j h1 h2 => ?_
  rw [caseS_bit, tset_bit]
  have : ¬ j = 0 := by omega
  simp [this]

--@ spec.Consistent
set_option maxRecDepth 100000 in
set_option maxHeartbeats 3200000 in
theorem c_spec_Consistent {lo hi : Nat} (v : Value) (a : Asn) (w : World) (h : AsnV w lo hi v a) :
    Calls Try.prog 97 #[v] w fun e w' => e = .returned (.bool (a.valid && !(cases a (caseS a 0)).isEmpty)) ∧ Below w.heap.size w w' := by
  have hV := Lib.hid h
  obtain ⟨A1, c1, A2, c2, rfl, -, -⟩ := h
  go_enter Try.func97, Try.ntmps97
  go_wp2_with fail
  refine (c_spec_AssertionValid _ a _ (hV.out.below (by repeat (first | (with_reducible exact Below.refl _ _) | (with_reducible assumption) | (with_reducible apply bbox) | ((with_reducible apply Below.setCell); (case hp => (first | exact Nat.le_refl _ | (simp; done) | (simp; omega) | (simp only; omega) | omega))) | (with_reducible apply Below.drew) | (with_reducible apply below_drewN))))).mono ?_
  rintro e w1 ⟨rfl, hB1⟩
  have k0 : Blk w1 w.heap.size tAs #[.slice A1 a.facts.length c1, .slice A2 a.atoms.length c2] := Blk.next (by repeat (first | (with_reducible assumption) | (with_reducible exact Blk.new _ _ _) | ((with_reducible apply Blk.far); (case hp => (first | exact Nat.le_refl _ | (simp; done) | (simp; omega) | (simp only; omega) | omega))) | (with_reducible apply Blk.set_) | ((with_reducible refine Blk.newE ?_); (simp; done)) | (with_reducible apply Blk.alloc) | (with_reducible apply Blk.drew) | (with_reducible apply Blk.drewN))) hB1
  have hB : Below w.heap.size w w1 := bgo (w := w) (by repeat (first | (with_reducible exact Below.refl _ _) | (with_reducible assumption) | (with_reducible apply bbox) | ((with_reducible apply Below.setCell); (case hp => (first | exact Nat.le_refl _ | (simp; done) | (simp; omega) | (simp only; omega) | omega))) | (with_reducible apply Below.drew) | (with_reducible apply below_drewN))) hB1
  clear hB1
  have q0 := k0.cell
  have l0 := k0.lt
  cases hv : a.valid
  · go_wp2_with fail
    go_ret
    exact ⟨ret_bool (by simp [hv]), hB⟩
  · have HV := Lib.hid hv
    have HT := Lib.hid (termsL_ok hv)
    have HS := Lib.hid (seek_terms hv)
    have HOP := Lib.hid openedB
    clear hv
    go_wp2_with fail
    refine wp_region_noPanic ?_
    refine wp_region_held_drew (S := (fun w' => ∀ i, w'.cell? ⟨w.heap.size, i, none⟩ = #[.slice A1 a.facts.length c1, .slice A2 a.atoms.length c2][i]?)) (by kernel_rfl) (Blk.cell (by repeat (first | (with_reducible assumption) | (with_reducible exact Blk.new _ _ _) | ((with_reducible apply Blk.far); (case hp => (first | exact Nat.le_refl _ | (simp; done) | (simp; omega) | (simp only; omega) | omega))) | (with_reducible apply Blk.set_) | ((with_reducible refine Blk.newE ?_); (simp; done)) | (with_reducible apply Blk.alloc) | (with_reducible apply Blk.drew) | (with_reducible apply Blk.drewN)))) (fun hHeld => ?_)
    refine wpAnyH_take (i := 0) (v := ?_) rfl (by kernel_rfl) (by kernel_rfl) (by kernel_rfl) (fun _ _ _ h => h) (Or.inl ⟨by rfl, fun w hSw => ?_⟩) hHeld ?_
    rotate_left
    · ((try dsimp only at hSw); go_split_ands; go_simp; (try with_reducible rfl))
    try simp only [Act.put, List.getElem_toArray, List.getElem_cons_zero, List.getElem_cons_succ, List.setIfInBounds_toArray, List.set_cons_zero, List.set_cons_succ]
    refine wpAnyH_take (i := 1) (v := ?_) rfl (by kernel_rfl) (by kernel_rfl) (by kernel_rfl) (fun _ _ _ h => h) (Or.inl ⟨by rfl, fun w hSw => ?_⟩) hHeld ?_
    rotate_left
    · ((try dsimp only at hSw); go_split_ands; go_simp; (try with_reducible rfl))
    try simp only [Act.put, List.getElem_toArray, List.getElem_cons_zero, List.getElem_cons_succ, List.setIfInBounds_toArray, List.set_cons_zero, List.set_cons_succ]
    refine wpAnyH_ready (rs := [2]) (by kernel_rfl) (by simp) ?_
    refine AllReadyH.cons rfl (fun K hK => ?_) AllReadyH.nil
    try simp only [List.getElem_toArray, List.getElem_cons_zero, List.getElem_cons_succ]
    (go_simp; refine (c_spec_l3Terms _ a _ (hV.out.below (by repeat (first | (with_reducible exact Below.refl _ _) | (with_reducible assumption) | (with_reducible apply bbox) | ((with_reducible apply Below.setCell); (case hp => (first | exact Nat.le_refl _ | (simp; done) | (simp; omega) | (simp only; omega) | omega))) | (with_reducible apply Below.drew) | (with_reducible apply below_drewN)))) HT.out).mono ?_; rintro e w3 ⟨r3, rfl, o3, hB3⟩; obtain ⟨Tb, ct, rfl, fT⟩ := o3.reads; rw [flagsOf_length]; have hB' := bgo (w := w) (by repeat (first | (with_reducible exact Below.refl _ _) | (with_reducible assumption) | (with_reducible apply bbox) | ((with_reducible apply Below.setCell); (case hp => (first | exact Nat.le_refl _ | (simp; done) | (simp; omega) | (simp only; omega) | omega))) | (with_reducible apply Below.drew) | (with_reducible apply below_drewN))) hB3; replace k0 := Blk.next (g := w.heap.size) (by repeat (first | (with_reducible assumption) | (with_reducible exact Blk.new _ _ _) | ((with_reducible apply Blk.far); (case hp => (first | exact Nat.le_refl _ | (simp; done) | (simp; omega) | (simp only; omega) | omega))) | (with_reducible apply Blk.set_) | ((with_reducible refine Blk.newE ?_); (simp; done)) | (with_reducible apply Blk.alloc) | (with_reducible apply Blk.drew) | (with_reducible apply Blk.drewN))) hB3)
    refine hK.out _ _ (Blk.cell (by repeat (first | (with_reducible assumption) | (with_reducible exact Blk.new _ _ _) | ((with_reducible apply Blk.far); (case hp => (first | exact Nat.le_refl _ | (simp; done) | (simp; omega) | (simp only; omega) | omega))) | (with_reducible apply Blk.set_) | ((with_reducible refine Blk.newE ?_); (simp; done)) | (with_reducible apply Blk.alloc) | (with_reducible apply Blk.drew) | (with_reducible apply Blk.drewN)))) (fun hHeldN => ?_)
    clear hHeld hK K
    have hHeld := hHeldN
    clear hHeldN
    try simp only [Act.put, List.getElem_toArray, List.getElem_cons_zero, List.getElem_cons_succ, List.setIfInBounds_toArray, List.set_cons_zero, List.set_cons_succ]
    refine wpAnyH_ready (rs := [3]) (by kernel_rfl) (by simp) ?_
    refine AllReadyH.cons rfl (fun K hK => ?_) AllReadyH.nil
    try simp only [List.getElem_toArray, List.getElem_cons_zero, List.getElem_cons_succ]
    (go_simp; refine (c_spec_l5Open _).mono ?_; rintro e w4 ⟨r4, rfl, o4, hB4⟩; obtain ⟨Cb, cc, rfl, fC⟩ := o4.reads; have hB2 := bgo hB' hB4; have fT4 := fT.below hB4; replace k0 := Blk.next (g := w.heap.size) (by repeat (first | (with_reducible assumption) | (with_reducible exact Blk.new _ _ _) | ((with_reducible apply Blk.far); (case hp => (first | exact Nat.le_refl _ | (simp; done) | (simp; omega) | (simp only; omega) | omega))) | (with_reducible apply Blk.set_) | ((with_reducible refine Blk.newE ?_); (simp; done)) | (with_reducible apply Blk.alloc) | (with_reducible apply Blk.drew) | (with_reducible apply Blk.drewN))) hB4)
    refine hK.out _ _ (Blk.cell (by repeat (first | (with_reducible assumption) | (with_reducible exact Blk.new _ _ _) | ((with_reducible apply Blk.far); (case hp => (first | exact Nat.le_refl _ | (simp; done) | (simp; omega) | (simp only; omega) | omega))) | (with_reducible apply Blk.set_) | ((with_reducible refine Blk.newE ?_); (simp; done)) | (with_reducible apply Blk.alloc) | (with_reducible apply Blk.drew) | (with_reducible apply Blk.drewN)))) (fun hHeldN => ?_)
    clear hHeld hK K
    have hHeld := hHeldN
    clear hHeldN
    try simp only [Act.put, List.getElem_toArray, List.getElem_cons_zero, List.getElem_cons_succ, List.setIfInBounds_toArray, List.set_cons_zero, List.set_cons_succ]
    refine wpAnyH_ready (rs := [4]) (by kernel_rfl) (by simp) ?_
    refine AllReadyH.cons rfl (fun K hK => ?_) AllReadyH.nil
    try simp only [List.getElem_toArray, List.getElem_cons_zero, List.getElem_cons_succ]
    (go_simp; refine (c_spec_l5First Tb ct HV.out 8 opened Cb cc _ _ _ (by omega) rfl (HOP.out.2 _) HOP.out.1 (hV.out.below (by repeat (first | (with_reducible exact Below.refl _ _) | (with_reducible assumption) | (with_reducible apply bbox) | ((with_reducible apply Below.setCell); (case hp => (first | exact Nat.le_refl _ | (simp; done) | (simp; omega) | (simp only; omega) | omega))) | (with_reducible apply Below.drew) | (with_reducible apply below_drewN)))) (fT4.below (by repeat (first | (with_reducible exact Below.refl _ _) | (with_reducible assumption) | (with_reducible apply bbox) | ((with_reducible apply Below.setCell); (case hp => (first | exact Nat.le_refl _ | (simp; done) | (simp; omega) | (simp only; omega) | omega))) | (with_reducible apply Below.drew) | (with_reducible apply below_drewN)))) (fC.below (by repeat (first | (with_reducible exact Below.refl _ _) | (with_reducible assumption) | (with_reducible apply bbox) | ((with_reducible apply Below.setCell); (case hp => (first | exact Nat.le_refl _ | (simp; done) | (simp; omega) | (simp only; omega) | omega))) | (with_reducible apply Below.drew) | (with_reducible apply below_drewN))))).mono ?_; rintro e w5 ⟨r5, rfl, o5, hB5⟩; have hB6 := bgo (w := w) (by repeat (first | (with_reducible exact Below.refl _ _) | (with_reducible assumption) | (with_reducible apply bbox) | ((with_reducible apply Below.setCell); (case hp => (first | exact Nat.le_refl _ | (simp; done) | (simp; omega) | (simp only; omega) | omega))) | (with_reducible apply Below.drew) | (with_reducible apply below_drewN))) hB5; replace k0 := Blk.next (g := w.heap.size) (by repeat (first | (with_reducible assumption) | (with_reducible exact Blk.new _ _ _) | ((with_reducible apply Blk.far); (case hp => (first | exact Nat.le_refl _ | (simp; done) | (simp; omega) | (simp only; omega) | omega))) | (with_reducible apply Blk.set_) | ((with_reducible refine Blk.newE ?_); (simp; done)) | (with_reducible apply Blk.alloc) | (with_reducible apply Blk.drew) | (with_reducible apply Blk.drewN))) hB5)
    refine hK.out _ _ (Blk.cell (by repeat (first | (with_reducible assumption) | (with_reducible exact Blk.new _ _ _) | ((with_reducible apply Blk.far); (case hp => (first | exact Nat.le_refl _ | (simp; done) | (simp; omega) | (simp only; omega) | omega))) | (with_reducible apply Blk.set_) | ((with_reducible refine Blk.newE ?_); (simp; done)) | (with_reducible apply Blk.alloc) | (with_reducible apply Blk.drew) | (with_reducible apply Blk.drewN)))) (fun hHeldN => ?_)
    clear hHeld hK K
    have hHeld := hHeldN
    clear hHeldN
    try simp only [Act.put, List.getElem_toArray, List.getElem_cons_zero, List.getElem_cons_succ, List.setIfInBounds_toArray, List.set_cons_zero, List.set_cons_succ]
    refine wpAnyH_take (i := 5) (v := ?_) rfl (by kernel_rfl) (by kernel_rfl) (by kernel_rfl) (fun _ _ _ h => h) (Or.inl ⟨by rfl, fun w hSw => ?_⟩) hHeld ?_
    rotate_left
    · ((try dsimp only at hSw); go_split_ands; go_simp; (try with_reducible rfl))
    try simp only [Act.put, List.getElem_toArray, List.getElem_cons_zero, List.getElem_cons_succ, List.setIfInBounds_toArray, List.set_cons_zero, List.set_cons_succ]
    refine wpAnyH_take (i := 6) (v := ?_) rfl (by kernel_rfl) (by kernel_rfl) (by kernel_rfl) (fun _ _ _ h => h) (Or.inl ⟨by rfl, fun w hSw => ?_⟩) hHeld ?_
    rotate_left
    · ((try dsimp only at hSw); go_split_ands; go_simp; (try with_reducible rfl))
    try simp only [Act.put, List.getElem_toArray, List.getElem_cons_zero, List.getElem_cons_succ, List.setIfInBounds_toArray, List.set_cons_zero, List.set_cons_succ]
    refine wpAnyH_take (i := 7) (v := ?_) rfl (by kernel_rfl) (by kernel_rfl) (by kernel_rfl) (fun _ _ _ h => h) (Or.inl ⟨by rfl, fun w hSw => ?_⟩) hHeld ?_
    rotate_left
    · ((try dsimp only at hSw); go_split_ands; go_simp; (try with_reducible rfl))
    try simp only [Act.put, List.getElem_toArray, List.getElem_cons_zero, List.getElem_cons_succ, List.setIfInBounds_toArray, List.set_cons_zero, List.set_cons_succ]
    refine wpAnyH_take (i := 8) (v := ?_) rfl (by kernel_rfl) (by kernel_rfl) (by kernel_rfl) (fun _ _ _ h => h) (Or.inl ⟨by rfl, fun w hSw => ?_⟩) hHeld ?_
    rotate_left
    · ((try dsimp only at hSw); go_split_ands; go_simp; (try with_reducible rfl))
    try simp only [Act.put, List.getElem_toArray, List.getElem_cons_zero, List.getElem_cons_succ, List.setIfInBounds_toArray, List.set_cons_zero, List.set_cons_succ]
    refine wpAnyH_take (i := 9) (v := ?_) rfl (by kernel_rfl) (by kernel_rfl) (by kernel_rfl) (fun _ _ _ h => h) (Or.inl ⟨by rfl, fun w hSw => ?_⟩) hHeld ?_
    rotate_left
    · ((try dsimp only at hSw); go_split_ands; go_simp; (try with_reducible rfl))
    try simp only [Act.put, List.getElem_toArray, List.getElem_cons_zero, List.getElem_cons_succ, List.setIfInBounds_toArray, List.set_cons_zero, List.set_cons_succ]
    refine wpAnyH_done (by kernel_rfl) ?_ _
    refine NoPanic.normal ?_
    go_wp2_with fail
    go_ret
    exact ⟨ret_bool (by rw [HS.out, HV.out]; rfl), (by repeat (first | (with_reducible exact Below.refl _ _) | (with_reducible assumption) | (with_reducible apply bbox) | ((with_reducible apply Below.setCell); (case hp => (first | exact Nat.le_refl _ | (simp; done) | (simp; omega) | (simp only; omega) | omega))) | (with_reducible apply Below.drew) | (with_reducible apply below_drewN)))⟩

--@ impl.withFact
def addF (a : Asn) (f : Fct) : Asn := ⟨a.facts ++ [f], a.atoms⟩
def symF (a : Asn) (f : Fct) : Option Asn := if (addF a f).valid && !(cases (addF a f) (caseS (addF a f) 0)).isEmpty then some (addF a f) else none
set_option maxRecDepth 100000 in
set_option maxHeartbeats 1600000 in
theorem c_impl_withFact {lo hi : Nat} (v : Value) (a : Asn) (f : Fct) (w : World) (h : AsnV w lo hi v a) (hn : a.facts.length + 1 ≤ 1049600) :
    Calls Try.prog 98 #[v, f.val] w fun e w' => ∃ r, e = .returned r ∧ AsnO w' w.heap.size r (addF a f) ∧ Below w.heap.size w w' := by
  obtain ⟨A1, c1, A2, c2, rfl, h1, h2⟩ := h
  have l2 := h2.le
  go_enter Try.func98, Try.ntmps98
  obtain ⟨k0, k1, k2⟩ := blk3 w 34 55 34 #[.slice A1 a.facts.length c1, .slice A2 a.atoms.length c2] #[.bool f.eq, .int .i64 f.a, .int .i64 f.b] #[.slice none 0 0, .slice none 0 0]
  go_wp2_with fail
  refine wp_region_noPanic ?_
  refine wp_region_held_drew (S := (fun w' => (∀ i, w'.cell? ⟨w.heap.size, i, none⟩ = #[.slice A1 a.facts.length c1, .slice A2 a.atoms.length c2][i]?) ∧ (∀ i, w'.cell? ⟨w.heap.size + 1, i, none⟩ = #[.bool f.eq, .int .i64 f.a, .int .i64 f.b][i]?))) (by kernel_rfl) (⟨Blk.cell (by repeat (first | (with_reducible assumption) | (with_reducible exact Blk.new _ _ _) | ((with_reducible apply Blk.far); (case hp => (first | exact Nat.le_refl _ | (simp; done) | (simp; omega) | (simp only; omega) | omega))) | (with_reducible apply Blk.set_) | ((with_reducible refine Blk.newE ?_); (simp; done)) | (with_reducible apply Blk.alloc) | (with_reducible apply Blk.drew) | (with_reducible apply Blk.drewN))), Blk.cell (by repeat (first | (with_reducible assumption) | (with_reducible exact Blk.new _ _ _) | ((with_reducible apply Blk.far); (case hp => (first | exact Nat.le_refl _ | (simp; done) | (simp; omega) | (simp only; omega) | omega))) | (with_reducible apply Blk.set_) | ((with_reducible refine Blk.newE ?_); (simp; done)) | (with_reducible apply Blk.alloc) | (with_reducible apply Blk.drew) | (with_reducible apply Blk.drewN)))⟩) (fun hHeld => ?_)
  refine wpAnyH_take (i := 0) (v := ?_) rfl (by kernel_rfl) (by kernel_rfl) (by kernel_rfl) (fun _ _ _ h => h) (Or.inl ⟨by rfl, fun w hSw => ?_⟩) hHeld ?_
  rotate_left
  · ((try dsimp only at hSw); go_split_ands; go_simp; (try with_reducible rfl))
  try simp only [Act.put, List.getElem_toArray, List.getElem_cons_zero, List.getElem_cons_succ, List.setIfInBounds_toArray, List.set_cons_zero, List.set_cons_succ]
  refine wpAnyH_take (i := 1) (v := ?_) rfl (by kernel_rfl) (by kernel_rfl) (by kernel_rfl) (fun _ _ _ h => h) (Or.inl ⟨by rfl, fun w hSw => ?_⟩) hHeld ?_
  rotate_left
  · ((try dsimp only at hSw); go_split_ands; go_simp; (try with_reducible rfl))
  try simp only [Act.put, List.getElem_toArray, List.getElem_cons_zero, List.getElem_cons_succ, List.setIfInBounds_toArray, List.set_cons_zero, List.set_cons_succ]
  refine wpAnyH_take (i := 2) (v := ?_) rfl (by kernel_rfl) (by kernel_rfl) (by kernel_rfl) (fun _ _ _ h => h) (Or.inl ⟨by rfl, fun w hSw => ?_⟩) hHeld ?_
  rotate_left
  · ((try dsimp only at hSw); go_split_ands; go_simp; (try with_reducible rfl))
  try simp only [Act.put, List.getElem_toArray, List.getElem_cons_zero, List.getElem_cons_succ, List.setIfInBounds_toArray, List.set_cons_zero, List.set_cons_succ]
  refine wpAnyH_take (i := 5) (v := ?_) rfl (by kernel_rfl) (by kernel_rfl) (by kernel_rfl) (fun _ _ _ h => h) (Or.inl ⟨by rfl, fun w hSw => ?_⟩) hHeld ?_
  rotate_left
  · ((try dsimp only at hSw); go_split_ands; go_simp; (try with_reducible rfl))
  try simp only [Act.put, List.getElem_toArray, List.getElem_cons_zero, List.getElem_cons_succ, List.setIfInBounds_toArray, List.set_cons_zero, List.set_cons_succ]
  refine wpAnyH_take (i := 6) (v := ?_) rfl (by kernel_rfl) (by kernel_rfl) (by kernel_rfl) (fun _ _ _ h => h) (Or.inl ⟨by rfl, fun w hSw => ?_⟩) hHeld ?_
  rotate_left
  · ((try dsimp only at hSw); go_split_ands; go_simp; (try with_reducible rfl))
  try simp only [Act.put, List.getElem_toArray, List.getElem_cons_zero, List.getElem_cons_succ, List.setIfInBounds_toArray, List.set_cons_zero, List.set_cons_succ]
  refine wpAnyH_ready (rs := [3]) (by kernel_rfl) (by simp) ?_
  refine AllReadyH.cons rfl (fun K hK => ?_) AllReadyH.nil
  try simp only [List.getElem_toArray, List.getElem_cons_zero, List.getElem_cons_succ]
  go_simp
  refine hK.out _ _ (⟨Blk.cell (by repeat (first | (with_reducible assumption) | (with_reducible exact Blk.new _ _ _) | ((with_reducible apply Blk.far); (case hp => (first | exact Nat.le_refl _ | (simp; done) | (simp; omega) | (simp only; omega) | omega))) | (with_reducible apply Blk.set_) | ((with_reducible refine Blk.newE ?_); (simp; done)) | (with_reducible apply Blk.alloc) | (with_reducible apply Blk.drew) | (with_reducible apply Blk.drewN))), Blk.cell (by repeat (first | (with_reducible assumption) | (with_reducible exact Blk.new _ _ _) | ((with_reducible apply Blk.far); (case hp => (first | exact Nat.le_refl _ | (simp; done) | (simp; omega) | (simp only; omega) | omega))) | (with_reducible apply Blk.set_) | ((with_reducible refine Blk.newE ?_); (simp; done)) | (with_reducible apply Blk.alloc) | (with_reducible apply Blk.drew) | (with_reducible apply Blk.drewN)))⟩) (fun hHeldN => ?_)
  clear hHeld hK K
  have hHeld := hHeldN
  clear hHeldN
  try simp only [Act.put, List.getElem_toArray, List.getElem_cons_zero, List.getElem_cons_succ, List.setIfInBounds_toArray, List.set_cons_zero, List.set_cons_succ]
  refine wpAnyH_ready (rs := [4]) (by kernel_rfl) (by simp) ?_
  refine AllReadyH.cons rfl (fun K hK => ?_) AllReadyH.nil
  try simp only [List.getElem_toArray, List.getElem_cons_zero, List.getElem_cons_succ]
  (go_simp; refine (c_joinF A1 _ c1 1 a.facts [f] _ (h1.below (by repeat (first | (with_reducible exact Below.refl _ _) | (with_reducible assumption) | (with_reducible apply bbox) | ((with_reducible apply Below.setCell); (case hp => (first | exact Nat.le_refl _ | (simp; done) | (simp; omega) | (simp only; omega) | omega))) | (with_reducible apply Below.drew) | (with_reducible apply below_drewN)))) (FactsV.one (f := f) (by repeat (first | (with_reducible assumption) | (with_reducible exact Blk.new _ _ _) | ((with_reducible apply Blk.far); (case hp => (first | exact Nat.le_refl _ | (simp; done) | (simp; omega) | (simp only; omega) | omega))) | (with_reducible apply Blk.set_) | ((with_reducible refine Blk.newE ?_); (simp; done)) | (with_reducible apply Blk.alloc) | (with_reducible apply Blk.drew) | (with_reducible apply Blk.drewN)))) (by simpa using hn)).mono ?_; rintro e w1 ⟨r1, rfl, o1, hB1⟩; obtain ⟨F1, e1, rfl, -⟩ := o1.reads; have hB := bgo (w := w) (by repeat (first | (with_reducible exact Below.refl _ _) | (with_reducible assumption) | (with_reducible apply bbox) | ((with_reducible apply Below.setCell); (case hp => (first | exact Nat.le_refl _ | (simp; done) | (simp; omega) | (simp only; omega) | omega))) | (with_reducible apply Below.drew) | (with_reducible apply below_drewN))) hB1; replace k0 := Blk.next (g := w.heap.size) (by repeat (first | (with_reducible assumption) | (with_reducible exact Blk.new _ _ _) | ((with_reducible apply Blk.far); (case hp => (first | exact Nat.le_refl _ | (simp; done) | (simp; omega) | (simp only; omega) | omega))) | (with_reducible apply Blk.set_) | ((with_reducible refine Blk.newE ?_); (simp; done)) | (with_reducible apply Blk.alloc) | (with_reducible apply Blk.drew) | (with_reducible apply Blk.drewN))) hB1; replace k1 := Blk.next (g := w.heap.size + 1) (by repeat (first | (with_reducible assumption) | (with_reducible exact Blk.new _ _ _) | ((with_reducible apply Blk.far); (case hp => (first | exact Nat.le_refl _ | (simp; done) | (simp; omega) | (simp only; omega) | omega))) | (with_reducible apply Blk.set_) | ((with_reducible refine Blk.newE ?_); (simp; done)) | (with_reducible apply Blk.alloc) | (with_reducible apply Blk.drew) | (with_reducible apply Blk.drewN))) hB1; replace k2 := Blk.next (g := w.heap.size + 1 + 1) (by repeat (first | (with_reducible assumption) | (with_reducible exact Blk.new _ _ _) | ((with_reducible apply Blk.far); (case hp => (first | exact Nat.le_refl _ | (simp; done) | (simp; omega) | (simp only; omega) | omega))) | (with_reducible apply Blk.set_) | ((with_reducible refine Blk.newE ?_); (simp; done)) | (with_reducible apply Blk.alloc) | (with_reducible apply Blk.drew) | (with_reducible apply Blk.drewN))) hB1)
  refine hK.out _ _ (⟨Blk.cell (by repeat (first | (with_reducible assumption) | (with_reducible exact Blk.new _ _ _) | ((with_reducible apply Blk.far); (case hp => (first | exact Nat.le_refl _ | (simp; done) | (simp; omega) | (simp only; omega) | omega))) | (with_reducible apply Blk.set_) | ((with_reducible refine Blk.newE ?_); (simp; done)) | (with_reducible apply Blk.alloc) | (with_reducible apply Blk.drew) | (with_reducible apply Blk.drewN))), Blk.cell (by repeat (first | (with_reducible assumption) | (with_reducible exact Blk.new _ _ _) | ((with_reducible apply Blk.far); (case hp => (first | exact Nat.le_refl _ | (simp; done) | (simp; omega) | (simp only; omega) | omega))) | (with_reducible apply Blk.set_) | ((with_reducible refine Blk.newE ?_); (simp; done)) | (with_reducible apply Blk.alloc) | (with_reducible apply Blk.drew) | (with_reducible apply Blk.drewN)))⟩) (fun hHeldN => ?_)
  clear hHeld hK K
  have hHeld := hHeldN
  clear hHeldN
  try simp only [Act.put, List.getElem_toArray, List.getElem_cons_zero, List.getElem_cons_succ, List.setIfInBounds_toArray, List.set_cons_zero, List.set_cons_succ]
  refine wpAnyH_ready (rs := [7]) (by kernel_rfl) (by simp) ?_
  refine AllReadyH.cons rfl (fun K hK => ?_) AllReadyH.nil
  try simp only [List.getElem_toArray, List.getElem_cons_zero, List.getElem_cons_succ]
  (go_simp; refine (c_joinA A2 none c2 0 a.atoms [] _ (h2.below (by repeat (first | (with_reducible exact Below.refl _ _) | (with_reducible assumption) | (with_reducible apply bbox) | ((with_reducible apply Below.setCell); (case hp => (first | exact Nat.le_refl _ | (simp; done) | (simp; omega) | (simp only; omega) | omega))) | (with_reducible apply Below.drew) | (with_reducible apply below_drewN)))) (Rd.nil _ 0 0 _ _) (by simpa using l2)).mono ?_; rintro e w2 ⟨r2, rfl, o2, hB2⟩; obtain ⟨F2, e2, rfl, -⟩ := o2.reads; have hBB := bgo hB hB2; have o1' := o1.below hB2; replace k0 := Blk.next (g := w.heap.size) (by repeat (first | (with_reducible assumption) | (with_reducible exact Blk.new _ _ _) | ((with_reducible apply Blk.far); (case hp => (first | exact Nat.le_refl _ | (simp; done) | (simp; omega) | (simp only; omega) | omega))) | (with_reducible apply Blk.set_) | ((with_reducible refine Blk.newE ?_); (simp; done)) | (with_reducible apply Blk.alloc) | (with_reducible apply Blk.drew) | (with_reducible apply Blk.drewN))) hB2; replace k1 := Blk.next (g := w.heap.size + 1) (by repeat (first | (with_reducible assumption) | (with_reducible exact Blk.new _ _ _) | ((with_reducible apply Blk.far); (case hp => (first | exact Nat.le_refl _ | (simp; done) | (simp; omega) | (simp only; omega) | omega))) | (with_reducible apply Blk.set_) | ((with_reducible refine Blk.newE ?_); (simp; done)) | (with_reducible apply Blk.alloc) | (with_reducible apply Blk.drew) | (with_reducible apply Blk.drewN))) hB2; replace k2 := Blk.next (g := w.heap.size + 1 + 1) (by repeat (first | (with_reducible assumption) | (with_reducible exact Blk.new _ _ _) | ((with_reducible apply Blk.far); (case hp => (first | exact Nat.le_refl _ | (simp; done) | (simp; omega) | (simp only; omega) | omega))) | (with_reducible apply Blk.set_) | ((with_reducible refine Blk.newE ?_); (simp; done)) | (with_reducible apply Blk.alloc) | (with_reducible apply Blk.drew) | (with_reducible apply Blk.drewN))) hB2; have q2 := k2.cell; have f2 := k2.frozen)
  refine hK.out _ _ (⟨Blk.cell (by repeat (first | (with_reducible assumption) | (with_reducible exact Blk.new _ _ _) | ((with_reducible apply Blk.far); (case hp => (first | exact Nat.le_refl _ | (simp; done) | (simp; omega) | (simp only; omega) | omega))) | (with_reducible apply Blk.set_) | ((with_reducible refine Blk.newE ?_); (simp; done)) | (with_reducible apply Blk.alloc) | (with_reducible apply Blk.drew) | (with_reducible apply Blk.drewN))), Blk.cell (by repeat (first | (with_reducible assumption) | (with_reducible exact Blk.new _ _ _) | ((with_reducible apply Blk.far); (case hp => (first | exact Nat.le_refl _ | (simp; done) | (simp; omega) | (simp only; omega) | omega))) | (with_reducible apply Blk.set_) | ((with_reducible refine Blk.newE ?_); (simp; done)) | (with_reducible apply Blk.alloc) | (with_reducible apply Blk.drew) | (with_reducible apply Blk.drewN)))⟩) (fun hHeldN => ?_)
  clear hHeld hK K
  have hHeld := hHeldN
  clear hHeldN
  try simp only [Act.put, List.getElem_toArray, List.getElem_cons_zero, List.getElem_cons_succ, List.setIfInBounds_toArray, List.set_cons_zero, List.set_cons_succ]
  refine wpAnyH_take (i := 8) (v := ?_) rfl (by kernel_rfl) (by kernel_rfl) (by kernel_rfl) (fun _ _ _ h => h) (Or.inl ⟨by rfl, fun w hSw => ?_⟩) hHeld ?_
  rotate_left
  · ((try dsimp only at hSw); go_split_ands; go_simp; (try with_reducible rfl))
  try simp only [Act.put, List.getElem_toArray, List.getElem_cons_zero, List.getElem_cons_succ, List.setIfInBounds_toArray, List.set_cons_zero, List.set_cons_succ]
  refine wpAnyH_ready (rs := [9]) (by kernel_rfl) (by simp) ?_
  refine AllReadyH.cons rfl (fun K hK => ?_) AllReadyH.nil
  try simp only [List.getElem_toArray, List.getElem_cons_zero, List.getElem_cons_succ]
  go_simp
  refine hK.out _ _ (⟨Blk.cell (by repeat (first | (with_reducible assumption) | (with_reducible exact Blk.new _ _ _) | ((with_reducible apply Blk.far); (case hp => (first | exact Nat.le_refl _ | (simp; done) | (simp; omega) | (simp only; omega) | omega))) | (with_reducible apply Blk.set_) | ((with_reducible refine Blk.newE ?_); (simp; done)) | (with_reducible apply Blk.alloc) | (with_reducible apply Blk.drew) | (with_reducible apply Blk.drewN))), Blk.cell (by repeat (first | (with_reducible assumption) | (with_reducible exact Blk.new _ _ _) | ((with_reducible apply Blk.far); (case hp => (first | exact Nat.le_refl _ | (simp; done) | (simp; omega) | (simp only; omega) | omega))) | (with_reducible apply Blk.set_) | ((with_reducible refine Blk.newE ?_); (simp; done)) | (with_reducible apply Blk.alloc) | (with_reducible apply Blk.drew) | (with_reducible apply Blk.drewN)))⟩) (fun hHeldN => ?_)
  clear hHeld hK K
  have hHeld := hHeldN
  clear hHeldN
  try simp only [Act.put, List.getElem_toArray, List.getElem_cons_zero, List.getElem_cons_succ, List.setIfInBounds_toArray, List.set_cons_zero, List.set_cons_succ]
  refine wpAnyH_done (by kernel_rfl) ?_ _
  refine NoPanic.normal ?_
  clear hHeld
  go_wp2_with fail
  have p1 := o1'.lower (base' := w.heap.size) (by (try simp) <;> omega)
  have p2 := o2.lower (base' := w.heap.size) hB.size
  rw [show (a.facts ++ [f]).length = a.facts.length + 1 from by simp] at p1
  rw [List.append_nil] at p2
  refine bodyPost_ret (v := .agg #[.slice F1 (a.facts.length + 1) e1, .slice F2 a.atoms.length e2]) (by simp [results, Try.results98, go_sem, q2]) rfl ⟨_, rfl, ⟨_, _, rfl, ?_, ?_⟩, (by repeat (first | (with_reducible exact Below.refl _ _) | (with_reducible assumption) | (with_reducible apply bbox) | ((with_reducible apply Below.setCell); (case hp => (first | exact Nat.le_refl _ | (simp; done) | (simp; omega) | (simp only; omega) | omega))) | (with_reducible apply Below.drew) | (with_reducible apply below_drewN)))⟩
  · exact (p1.setT k2 (by decide) 0 (.slice F1 (a.facts.length + 1) e1)).setT (k2.set_ 0 _) (by decide) 1 (.slice F2 a.atoms.length e2)
  · exact (p2.setT k2 (by decide) 0 (.slice F1 (a.facts.length + 1) e1)).setT (k2.set_ 0 _) (by decide) 1 (.slice F2 a.atoms.length e2)

--@ spec.StarAssertions
set_option maxRecDepth 100000 in
set_option maxHeartbeats 3200000 in
theorem c_spec_Star {lo hi lo' hi' : Nat} (v v' : Value) (a b : Asn) (w : World) (h : AsnV w lo hi v a) (h' : AsnV w lo' hi' v' b) :
    Calls Try.prog 96 #[v, v'] w fun e w' => ∃ r, e = .returned (.tuple #[r, .bool (starF a b).isSome]) ∧ AsnO w' w.heap.size r ((starF a b).getD ⟨[], []⟩) ∧ Below w.heap.size w w' := by
  have hV := Lib.hid h
  have hV' := Lib.hid h'
  obtain ⟨A1, c1, A2, c2, rfl, -, -⟩ := h
  obtain ⟨A3, c3, A4, c4, rfl, -, -⟩ := h'
  have HF : Hid (starF a b = if a.valid && b.valid && (starA a b).valid then some (starA a b) else none) := rfl
  go_enter Try.func96, Try.ntmps96
  obtain ⟨k0, k1, k2⟩ := blk3 w 34 34 34 #[.slice A1 a.facts.length c1, .slice A2 a.atoms.length c2] #[.slice A3 b.facts.length c3, .slice A4 b.atoms.length c4] #[.slice none 0 0, .slice none 0 0]
  go_wp2_with fail
  refine (c_spec_AssertionValid _ a _ (hV.out.below (by repeat (first | (with_reducible exact Below.refl _ _) | (with_reducible assumption) | (with_reducible apply bbox) | ((with_reducible apply Below.setCell); (case hp => (first | exact Nat.le_refl _ | (simp; done) | (simp; omega) | (simp only; omega) | omega))) | (with_reducible apply Below.drew) | (with_reducible apply below_drewN))))).mono ?_
  rintro e w1 ⟨rfl, hB1⟩
  have hB := bgo (w := w) (by repeat (first | (with_reducible exact Below.refl _ _) | (with_reducible assumption) | (with_reducible apply bbox) | ((with_reducible apply Below.setCell); (case hp => (first | exact Nat.le_refl _ | (simp; done) | (simp; omega) | (simp only; omega) | omega))) | (with_reducible apply Below.drew) | (with_reducible apply below_drewN))) hB1
  replace k0 := k0.next hB1
  replace k1 := k1.next hB1
  replace k2 := k2.next hB1
  (replace qk0 := k0.cell; replace rk0 := k0.frozen; replace lk0 := k0.lt; replace qk1 := k1.cell; replace rk1 := k1.frozen; replace lk1 := k1.lt; replace qk2 := k2.cell; replace rk2 := k2.frozen; replace lk2 := k2.lt)
  clear hB1
  cases ha : a.valid
  · have E := Lib.hid (show starF a b = none by rw [HF.out, ha]; rfl)
    clear ha
    go_wp2_with fail
    refine bodyPost_ret (v := .tuple #[.agg #[.slice none 0 0, .slice none 0 0], .bool false]) (by simp [results, Try.results96, go_sem, qk2]) rfl ⟨_, by rw [E.out]; rfl, by rw [E.out]; exact AsnO.zero _ _, (by repeat (first | (with_reducible exact Below.refl _ _) | (with_reducible assumption) | (with_reducible apply bbox) | ((with_reducible apply Below.setCell); (case hp => (first | exact Nat.le_refl _ | (simp; done) | (simp; omega) | (simp only; omega) | omega))) | (with_reducible apply Below.drew) | (with_reducible apply below_drewN)))⟩
  have HA := Lib.hid ha
  clear ha
  go_wp2_with fail
  refine (c_spec_AssertionValid _ b _ (hV'.out.below hB)).mono ?_
  rintro e w2 ⟨rfl, hB2⟩
  (replace hB := bgo hB hB2; replace k0 := k0.next hB2; replace qk0 := k0.cell; replace rk0 := k0.frozen; replace lk0 := k0.lt; replace k1 := k1.next hB2; replace qk1 := k1.cell; replace rk1 := k1.frozen; replace lk1 := k1.lt; replace k2 := k2.next hB2; replace qk2 := k2.cell; replace rk2 := k2.frozen; replace lk2 := k2.lt)
  clear hB2
  cases hb : b.valid
  · have E := Lib.hid (show starF a b = none by rw [HF.out, hb]; simp)
    clear hb
    go_wp2_with fail
    refine bodyPost_ret (v := .tuple #[.agg #[.slice none 0 0, .slice none 0 0], .bool false]) (by simp [results, Try.results96, go_sem, qk2]) rfl ⟨_, by rw [E.out]; rfl, by rw [E.out]; exact AsnO.zero _ _, (by repeat (first | (with_reducible exact Below.refl _ _) | (with_reducible assumption) | (with_reducible apply bbox) | ((with_reducible apply Below.setCell); (case hp => (first | exact Nat.le_refl _ | (simp; done) | (simp; omega) | (simp only; omega) | omega))) | (with_reducible apply Below.drew) | (with_reducible apply below_drewN)))⟩
  have HB := Lib.hid hb
  clear hb
  have HLA := Lib.hid (valid_len HA.out)
  have HLB := Lib.hid (valid_len HB.out)
  have hlf : a.facts.length + b.facts.length ≤ 1049600 := by have := HLA.out; have := HLB.out; omega
  have hlx : a.atoms.length + b.atoms.length ≤ 1049600 := by have := HLA.out; have := HLB.out; omega
  go_wp2_with fail
  refine (c_spec_l3Star _ _ a b _ (hV.out.below hB) (hV'.out.below hB) hlf hlx).mono ?_
  rintro e w3 ⟨r3, rfl, o3, hB3⟩
  (replace hB := bgo hB hB3; replace k0 := k0.next hB3; replace qk0 := k0.cell; replace rk0 := k0.frozen; replace lk0 := k0.lt; replace k1 := k1.next hB3; replace qk1 := k1.cell; replace rk1 := k1.frozen; replace lk1 := k1.lt; replace k2 := k2.next hB3; replace qk2 := k2.cell; replace rk2 := k2.frozen; replace lk2 := k2.lt)
  have V3 := Lib.hid o3.reads
  clear o3 hB3
  go_wp2_with fail
  refine (c_spec_AssertionValid r3 (starA a b) _ V3.out).mono ?_
  rintro e w4 ⟨rfl, hB4⟩
  (replace hB := bgo hB hB4; replace k0 := k0.next hB4; replace qk0 := k0.cell; replace rk0 := k0.frozen; replace lk0 := k0.lt; replace k1 := k1.next hB4; replace qk1 := k1.cell; replace rk1 := k1.frozen; replace lk1 := k1.lt; replace k2 := k2.next hB4; replace qk2 := k2.cell; replace rk2 := k2.frozen; replace lk2 := k2.lt)
  clear hB4 V3
  cases hs : (starA a b).valid
  · have E := Lib.hid (show starF a b = none by rw [HF.out, hs]; simp)
    clear hs
    go_wp2_with fail
    refine bodyPost_ret (v := .tuple #[.agg #[.slice none 0 0, .slice none 0 0], .bool false]) (by simp [results, Try.results96, go_sem, qk2]) rfl ⟨_, by rw [E.out]; rfl, by rw [E.out]; exact AsnO.zero _ _, (by repeat (first | (with_reducible exact Below.refl _ _) | (with_reducible assumption) | (with_reducible apply bbox) | ((with_reducible apply Below.setCell); (case hp => (first | exact Nat.le_refl _ | (simp; done) | (simp; omega) | (simp only; omega) | omega))) | (with_reducible apply Below.drew) | (with_reducible apply below_drewN)))⟩
  have E := Lib.hid (show starF a b = some (starA a b) by rw [HF.out, HA.out, HB.out, hs]; rfl)
  clear hs
  go_wp2_with fail
  refine (c_spec_l3Star _ _ a b _ (hV.out.below hB) (hV'.out.below hB) hlf hlx).mono ?_
  rintro e w5 ⟨r5, rfl, o5, hB5⟩
  have hz := hB.size
  (replace hB := bgo hB hB5; replace k0 := k0.next hB5; replace qk0 := k0.cell; replace rk0 := k0.frozen; replace lk0 := k0.lt; replace k1 := k1.next hB5; replace qk1 := k1.cell; replace rk1 := k1.frozen; replace lk1 := k1.lt; replace k2 := k2.next hB5; replace qk2 := k2.cell; replace rk2 := k2.frozen; replace lk2 := k2.lt)
  obtain ⟨F, e1, G, e2, rfl⟩ := o5.I.form
  go_wp2_with fail
  refine bodyPost_ret (v := .tuple #[.agg #[.slice F (starA a b).facts.length e1, .slice G (starA a b).atoms.length e2], .bool true]) (by simp [results, Try.results96, go_sem, qk2]) rfl ⟨_, by rw [E.out]; rfl, ?_, (by repeat (first | (with_reducible exact Below.refl _ _) | (with_reducible assumption) | (with_reducible apply bbox) | ((with_reducible apply Below.setCell); (case hp => (first | exact Nat.le_refl _ | (simp; done) | (simp; omega) | (simp only; omega) | omega))) | (with_reducible apply Below.drew) | (with_reducible apply below_drewN)))⟩
  rw [E.out]
  obtain ⟨fv, av, ev, p1, p2⟩ := o5
  injection ev with ev; injection ev with ev; injection ev with ev1 ev2; injection ev2 with ev2
  subst ev1; subst ev2
  exact ⟨_, _, rfl, ((p1.setT k2 (by decide) _ _).setT (k2.set_ _ _) (by decide) _ _).lower hz, ((p2.setT k2 (by decide) _ _).setT (k2.set_ _ _) (by decide) _ _).lower hz⟩

--@ impl.SymTest
set_option maxRecDepth 100000 in
set_option maxHeartbeats 1600000 in
theorem c_impl_SymTest {lo hi : Nat} (v : Value) (a : Asn) (f : Fct) (w : World) (h : AsnV w lo hi v a) (hn : a.facts.length + 1 ≤ 1049600) :
    Calls Try.prog 33 #[v, f.val] w fun e w' => ∃ r, e = .returned (.tuple #[r, .bool (symF a f).isSome]) ∧ AsnO w' w.heap.size r ((symF a f).getD ⟨[], []⟩) ∧ Below w.heap.size w w' := by
  have hV := Lib.hid h
  obtain ⟨A1, c1, A2, c2, rfl, -, -⟩ := h
  have HF : Hid (symF a f = if (addF a f).valid && !(cases (addF a f) (caseS (addF a f) 0)).isEmpty then some (addF a f) else none) := rfl
  go_enter Try.func33, Try.ntmps33
  obtain ⟨k0, k1, k2⟩ := blk3 w 34 55 34 #[.slice A1 a.facts.length c1, .slice A2 a.atoms.length c2] #[.bool f.eq, .int .i64 f.a, .int .i64 f.b] #[.slice none 0 0, .slice none 0 0]
  go_wp2_with fail
  refine (c_impl_withFact _ a f _ (hV.out.below (by repeat (first | (with_reducible exact Below.refl _ _) | (with_reducible assumption) | (with_reducible apply bbox) | ((with_reducible apply Below.setCell); (case hp => (first | exact Nat.le_refl _ | (simp; done) | (simp; omega) | (simp only; omega) | omega))) | (with_reducible apply Below.drew) | (with_reducible apply below_drewN)))) hn).mono ?_
  rintro e w1 ⟨r1, rfl, o1, hB1⟩
  have hB := bgo (w := w) (by repeat (first | (with_reducible exact Below.refl _ _) | (with_reducible assumption) | (with_reducible apply bbox) | ((with_reducible apply Below.setCell); (case hp => (first | exact Nat.le_refl _ | (simp; done) | (simp; omega) | (simp only; omega) | omega))) | (with_reducible apply Below.drew) | (with_reducible apply below_drewN))) hB1
  have hB0 : w.heap.size ≤ w1.heap.size := hB.size
  replace o1 := o1.lower (base' := w.heap.size) (by (try simp) <;> omega)
  replace k0 := k0.next hB1
  replace k1 := k1.next hB1
  replace k2 := k2.next hB1
  (replace qk2 := k2.cell; replace rk2 := k2.frozen; replace lk2 := k2.lt)
  clear hB1 k0 k1
  have O1 := Lib.hid o1
  have V1 := Lib.hid o1.reads
  obtain ⟨F, e1, G, e2, rfl⟩ := o1.I.form
  clear o1
  have kx : Blk (w1.alloc (.cells #[.slice F (addF a f).facts.length e1, .slice G (addF a f).atoms.length e2] 34)) w1.heap.size 34 #[.slice F (addF a f).facts.length e1, .slice G (addF a f).atoms.length e2] := Blk.new _ _ _
  go_wp2_with fail
  refine (c_impl_Consistent _ (addF a f) _ (V1.out.below (by repeat (first | (with_reducible exact Below.refl _ _) | (with_reducible assumption) | (with_reducible apply bbox) | ((with_reducible apply Below.setCell); (case hp => (first | exact Nat.le_refl _ | (simp; done) | (simp; omega) | (simp only; omega) | omega))) | (with_reducible apply Below.drew) | (with_reducible apply below_drewN)))) (by simp)).mono ?_
  rintro e w2 ⟨rfl, hB2⟩
  have hBB : Below w.heap.size w w2 := bgo (w := w) (by repeat (first | (with_reducible exact Below.refl _ _) | (with_reducible assumption) | (with_reducible apply bbox) | ((with_reducible apply Below.setCell); (case hp => (first | exact Nat.le_refl _ | (simp; done) | (simp; omega) | (simp only; omega) | omega))) | (with_reducible apply Below.drew) | (with_reducible apply below_drewN))) hB2
  have O2 := Lib.hid ((O1.out.below (w' := w1.alloc (.cells #[.slice F (addF a f).facts.length e1, .slice G (addF a f).atoms.length e2] 34)) (by repeat (first | (with_reducible exact Below.refl _ _) | (with_reducible assumption) | (with_reducible apply bbox) | ((with_reducible apply Below.setCell); (case hp => (first | exact Nat.le_refl _ | (simp; done) | (simp; omega) | (simp only; omega) | omega))) | (with_reducible apply Below.drew) | (with_reducible apply below_drewN)))).below hB2)
  replace k2 := Blk.next (k2.alloc _) hB2
  replace kx := kx.next hB2
  (replace qk2 := k2.cell; replace rk2 := k2.frozen; replace lk2 := k2.lt; replace qkx := kx.cell; replace rkx := kx.frozen; replace lkx := kx.lt)
  clear hB2 O1
  cases hc : ((addF a f).valid && !(cases (addF a f) (caseS (addF a f) 0)).isEmpty)
  · have E := Lib.hid (show symF a f = none by rw [HF.out, hc]; rfl)
    clear hc
    go_wp2_with fail
    refine bodyPost_ret (v := .tuple #[.agg #[.slice none 0 0, .slice none 0 0], .bool false]) (by simp [results, Try.results33, go_sem, qk2]) rfl ⟨_, by rw [E.out]; rfl, by rw [E.out]; exact AsnO.zero _ _, (by repeat (first | (with_reducible exact Below.refl _ _) | (with_reducible assumption) | (with_reducible apply bbox) | ((with_reducible apply Below.setCell); (case hp => (first | exact Nat.le_refl _ | (simp; done) | (simp; omega) | (simp only; omega) | omega))) | (with_reducible apply Below.drew) | (with_reducible apply below_drewN)))⟩
  · have E := Lib.hid (show symF a f = some (addF a f) by rw [HF.out, hc]; rfl)
    clear hc
    go_wp2_with fail
    refine bodyPost_ret (v := .tuple #[.agg #[.slice F (addF a f).facts.length e1, .slice G (addF a f).atoms.length e2], .bool true]) (by simp [results, Try.results33, go_sem, qk2]) rfl ⟨_, by rw [E.out]; rfl, ?_, (by repeat (first | (with_reducible exact Below.refl _ _) | (with_reducible assumption) | (with_reducible apply bbox) | ((with_reducible apply Below.setCell); (case hp => (first | exact Nat.le_refl _ | (simp; done) | (simp; omega) | (simp only; omega) | omega))) | (with_reducible apply Below.drew) | (with_reducible apply below_drewN)))⟩
    rw [E.out]
    obtain ⟨fv, av, ev, p1, p2⟩ := O2.out
    injection ev with ev; injection ev with ev; injection ev with ev1 ev2; injection ev2 with ev2
    subst ev1; subst ev2
    exact ⟨_, _, rfl, (p1.setT k2 (by decide) _ _).setT (k2.set_ _ _) (by decide) _ _, (p2.setT k2 (by decide) _ _).setT (k2.set_ _ _) (by decide) _ _⟩

--@ spec.SymTest
theorem symF_star (a : Asn) (f : Fct) : symF a f = (starF a ⟨[f], []⟩).bind fun x => if x.valid && !(cases x (caseS x 0)).isEmpty then some x else none := by
  have e : starA a ⟨[f], []⟩ = addF a f := by simp [starA, addF]
  unfold symF starF
  rw [e]
  cases h : (addF a f).valid
  · simp
  · have h1 : a.valid = true ∧ (⟨[f], []⟩ : Asn).valid = true := by
      simp only [Asn.valid, addF, factsValid, Bool.and_eq_true, decide_eq_true_eq, List.all_append, List.length_append, List.length_cons, List.length_nil] at h ⊢
      exact ⟨⟨⟨by omega, h.1.2.1⟩, of_decide_eq_true h.2.1, h.2.2⟩, ⟨⟨by omega, h.1.2.2⟩, by simp⟩⟩
    rw [h1.1, h1.2]
    simp [h]
set_option maxRecDepth 100000 in
set_option maxHeartbeats 1600000 in
theorem c_spec_SymTest {lo hi : Nat} (v : Value) (a : Asn) (f : Fct) (w : World) (h : AsnV w lo hi v a) :
    Calls Try.prog 31 #[v, f.val] w fun e w' => ∃ r, e = .returned (.tuple #[r, .bool (symF a f).isSome]) ∧ AsnO w' w.heap.size r ((symF a f).getD ⟨[], []⟩) ∧ Below w.heap.size w w' := by
  have hV := Lib.hid h
  obtain ⟨A1, c1, A2, c2, rfl, -, -⟩ := h
  have HF := Lib.hid (symF_star a f)
  go_enter Try.func31, Try.ntmps31
  obtain ⟨k0, k1, k2⟩ := blk3 w 34 55 34 #[.slice A1 a.facts.length c1, .slice A2 a.atoms.length c2] #[.bool f.eq, .int .i64 f.a, .int .i64 f.b] #[.slice none 0 0, .slice none 0 0]
  have kf : Blk ((((w.alloc (.cells #[.slice A1 a.facts.length c1, .slice A2 a.atoms.length c2] 34)).alloc (.cells #[.bool f.eq, .int .i64 f.a, .int .i64 f.b] 55)).alloc (.cells #[.slice none 0 0, .slice none 0 0] 34)).alloc (.cells #[.bool f.eq, .int .i64 f.a, .int .i64 f.b] 55)) (w.heap.size + 1 + 1 + 1) tF #[.bool f.eq, .int .i64 f.a, .int .i64 f.b] := (by repeat (first | (with_reducible assumption) | (with_reducible exact Blk.new _ _ _) | ((with_reducible apply Blk.far); (case hp => (first | exact Nat.le_refl _ | (simp; done) | (simp; omega) | (simp only; omega) | omega))) | (with_reducible apply Blk.set_) | ((with_reducible refine Blk.newE ?_); (simp; done)) | (with_reducible apply Blk.alloc) | (with_reducible apply Blk.drew) | (with_reducible apply Blk.drewN)))
  go_wp2_with fail
  refine (c_spec_Star _ _ a ⟨[f], []⟩ _ (hV.out.below (by repeat (first | (with_reducible exact Below.refl _ _) | (with_reducible assumption) | (with_reducible apply bbox) | ((with_reducible apply Below.setCell); (case hp => (first | exact Nat.le_refl _ | (simp; done) | (simp; omega) | (simp only; omega) | omega))) | (with_reducible apply Below.drew) | (with_reducible apply below_drewN)))) (lo' := 0) (hi' := w.heap.size + 1 + 1 + 1 + 1) ⟨_, 1, _, 0, rfl, (FactsV.one (f := f) kf).mono (Nat.zero_le _) (Nat.le_refl _), Rd.nil _ _ _ _ _⟩).mono ?_
  rintro e w1 ⟨r1, rfl, o1, hB1⟩
  have hB := bgo (w := w) (by repeat (first | (with_reducible exact Below.refl _ _) | (with_reducible assumption) | (with_reducible apply bbox) | ((with_reducible apply Below.setCell); (case hp => (first | exact Nat.le_refl _ | (simp; done) | (simp; omega) | (simp only; omega) | omega))) | (with_reducible apply Below.drew) | (with_reducible apply below_drewN))) hB1
  have hB0 : w.heap.size ≤ w1.heap.size := hB.size
  replace o1 := o1.lower (base' := w.heap.size) (by (try simp) <;> omega)
  replace k2 := (k2.alloc (.cells #[.bool f.eq, .int .i64 f.a, .int .i64 f.b] 55)).next hB1
  (replace qk2 := k2.cell; replace rk2 := k2.frozen; replace lk2 := k2.lt)
  clear hB1 k0 k1 kf
  have O1 := Lib.hid o1
  have V1 := Lib.hid o1.reads
  obtain ⟨F, e1, G, e2, rfl⟩ := o1.I.form
  clear o1
  generalize hx : (starF a ⟨[f], []⟩).getD ⟨[], []⟩ = x at O1 V1 ⊢
  have HX := Lib.hid hx
  clear hx
  have kx : Blk (w1.alloc (.cells #[.slice F x.facts.length e1, .slice G x.atoms.length e2] 34)) w1.heap.size 34 #[.slice F x.facts.length e1, .slice G x.atoms.length e2] := Blk.new _ _ _
  cases hs : starF a ⟨[f], []⟩ with
  | none =>
    have E := Lib.hid (show symF a f = none by rw [HF.out, hs]; rfl)
    clear hs HX
    simp only [Option.isSome_none]
    go_wp2_with fail
    refine bodyPost_ret (v := .tuple #[.agg #[.slice none 0 0, .slice none 0 0], .bool false]) (by simp [results, Try.results31, go_sem, qk2, lk2]) rfl ⟨_, by rw [E.out]; rfl, by rw [E.out]; exact AsnO.zero _ _, (by repeat (first | (with_reducible exact Below.refl _ _) | (with_reducible assumption) | (with_reducible apply bbox) | ((with_reducible apply Below.setCell); (case hp => (first | exact Nat.le_refl _ | (simp; done) | (simp; omega) | (simp only; omega) | omega))) | (with_reducible apply Below.drew) | (with_reducible apply below_drewN)))⟩
  | some y =>
    have HS := Lib.hid hs
    clear hs
    simp only [Option.isSome_some]
    go_wp2_with fail
    refine (c_spec_Consistent _ x _ (V1.out.below (by repeat (first | (with_reducible exact Below.refl _ _) | (with_reducible assumption) | (with_reducible apply bbox) | ((with_reducible apply Below.setCell); (case hp => (first | exact Nat.le_refl _ | (simp; done) | (simp; omega) | (simp only; omega) | omega))) | (with_reducible apply Below.drew) | (with_reducible apply below_drewN))))).mono ?_
    rintro e w2 ⟨rfl, hB2⟩
    have hBB : Below w.heap.size w w2 := bgo (w := w) (by repeat (first | (with_reducible exact Below.refl _ _) | (with_reducible assumption) | (with_reducible apply bbox) | ((with_reducible apply Below.setCell); (case hp => (first | exact Nat.le_refl _ | (simp; done) | (simp; omega) | (simp only; omega) | omega))) | (with_reducible apply Below.drew) | (with_reducible apply below_drewN))) hB2
    have O2 := Lib.hid ((O1.out.below (w' := w1.alloc (.cells #[.slice F x.facts.length e1, .slice G x.atoms.length e2] 34)) (by repeat (first | (with_reducible exact Below.refl _ _) | (with_reducible assumption) | (with_reducible apply bbox) | ((with_reducible apply Below.setCell); (case hp => (first | exact Nat.le_refl _ | (simp; done) | (simp; omega) | (simp only; omega) | omega))) | (with_reducible apply Below.drew) | (with_reducible apply below_drewN)))).below hB2)
    replace k2 := Blk.next (k2.alloc _) hB2
    replace kx := kx.next hB2
    (replace qk2 := k2.cell; replace rk2 := k2.frozen; replace lk2 := k2.lt; replace qkx := kx.cell; replace rkx := kx.frozen; replace lkx := kx.lt)
    clear hB2 O1
    have hyx : x = y := by have := HX.out; rw [HS.out] at this; exact this.symm
    have HF2 : Hid (symF a f = if x.valid && !(cases x (caseS x 0)).isEmpty then some x else none) := by show _ = _; rw [HF.out, HS.out, hyx]; rfl
    clear hyx
    cases hc : (x.valid && !(cases x (caseS x 0)).isEmpty)
    · have E := Lib.hid (show symF a f = none by rw [HF2.out, hc]; rfl)
      clear hc
      go_wp2_with fail
      refine bodyPost_ret (v := .tuple #[.agg #[.slice none 0 0, .slice none 0 0], .bool false]) (by simp [results, Try.results31, go_sem, qk2]) rfl ⟨_, by rw [E.out]; rfl, by rw [E.out]; exact AsnO.zero _ _, (by repeat (first | (with_reducible exact Below.refl _ _) | (with_reducible assumption) | (with_reducible apply bbox) | ((with_reducible apply Below.setCell); (case hp => (first | exact Nat.le_refl _ | (simp; done) | (simp; omega) | (simp only; omega) | omega))) | (with_reducible apply Below.drew) | (with_reducible apply below_drewN)))⟩
    · have E := Lib.hid (show symF a f = some x by rw [HF2.out, hc]; rfl)
      clear hc
      go_wp2_with fail
      refine bodyPost_ret (v := .tuple #[.agg #[.slice F x.facts.length e1, .slice G x.atoms.length e2], .bool true]) (by simp [results, Try.results31, go_sem, qk2]) rfl ⟨_, by rw [E.out]; rfl, ?_, (by repeat (first | (with_reducible exact Below.refl _ _) | (with_reducible assumption) | (with_reducible apply bbox) | ((with_reducible apply Below.setCell); (case hp => (first | exact Nat.le_refl _ | (simp; done) | (simp; omega) | (simp only; omega) | omega))) | (with_reducible apply Below.drew) | (with_reducible apply below_drewN)))⟩
      rw [E.out]
      obtain ⟨fv, av, ev, p1, p2⟩ := O2.out
      injection ev with ev; injection ev with ev; injection ev with ev1 ev2; injection ev2 with ev2
      subst ev1; subst ev2
      exact ⟨_, _, rfl, (p1.setT k2 (by decide) _ _).setT (k2.set_ _ _) (by decide) _ _, (p2.setT k2 (by decide) _ _).setT (k2.set_ _ _) (by decide) _ _⟩
end Go.Proofs.Ytniafbkbnbaciaa
