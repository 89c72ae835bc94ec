/- Contracts: the spec's first failing case. -/
import Derived.Test.YtciabhddppdioaaMatchT
import Derived.Test.YtciabhddppdioaaMFailW
import Derived.Test.YtciabhddppdioaaMMatchS
import Derived.Test.YtciabhddppdioaaMModel
import Derived.Test.YtciabhddppdioaaMSte
import Derived.Test.YtciabhddppdioaaMCmd
import Derived.BigQuiet
import Derived.Deep.QuietTactic
import Derived.Test.YtciabhddppdioaaMDrawR
import Derived.Test.YtciabhddppdioaaMFrame
import Derived.Test.YtciabhddppdioaaLogK
import Derived.Test.YtciabhddppdioaaMMatch
set_option linter.unusedSimpArgs false
set_option linter.unusedVariables false
namespace Go.Proofs.Ytciabhddppdioaa
open Go Go.RowKit Go.Proofs
attribute [local go_sem ↓] Go.wp_at_zero Go.wp_at_succ

--@ spec.l6Case
def caseB (a b : Asn) (c : List Int) : Bool := fitsS c b.facts && matchB (filledL a.atoms c) (filledL b.atoms c)
theorem filled_goal {b : Asn} (hb : b.valid = true) (c : List Int) : ∀ x ∈ filledL b.atoms c, x.kind = 1 ∨ (x.kind = 2 ∧ x.a ≠ x.b) := by
  intro x hx
  unfold filledL at hx
  obtain ⟨y, hy, rfl⟩ := List.mem_map.1 hx
  obtain ⟨hy1, hy2⟩ := List.mem_filter.1 hy
  have hv : y.valid = true := by
    simp only [Asn.valid, Bool.and_eq_true, List.all_eq_true] at hb
    exact hb.2.2 y hy1
  simp only [Atm.valid, Bool.and_eq_true, decide_eq_true_eq] at hv
  rcases hv.1.1 with h | h
  · exact Or.inl h
  · refine Or.inr ⟨h, fun e => ?_⟩
    unfold Atm.fill at hy2
    rw [h] at hy2
    simp only [Atm.cls] at e
    simp [e] at hy2
set_option maxRecDepth 100000 in
set_option maxHeartbeats 6400000 in
theorem c_spec_l6Case {lo hi lo' hi' lo2 hi2 : Nat} (v v' : Value) (B : Option Addr) (cc : Nat) (a b : Asn) (c : List Int) (w : World) (h : AsnV w lo hi v a) (h' : AsnV w lo' hi' v' b) (hi_ : IntsV w lo2 hi2 B c) (ha : a.valid = true) (hb : b.valid = true) (hc : c.length = 9) :
    Calls Try.prog 252 #[v, v', .slice B 9 cc] w fun e w' => e = .returned (.bool (caseB a b c)) ∧ Below w.heap.size w w' := by
  have HA := Lib.hid (Asn.valid_ok ha)
  have HBV := Lib.hid (Asn.valid_ok hb)
  have HC := Lib.hid hc
  have HI := Lib.hid hi_
  have HGO := Lib.hid (filled_goal hb c)
  have hal := (valid_len ha).2
  obtain ⟨A1, c1, A2, c2, rfl, h1, h2⟩ := h
  obtain ⟨A3, c3, A4, c4, rfl, h3, h4⟩ := h'
  have H2 := Lib.hid h2
  have H3 := Lib.hid h3
  have H4 := Lib.hid h4
  have HXL := Lib.hid (filledL_len a.atoms c)
  have HE : Hid (caseB a b c = (fitsS c b.facts && matchB (filledL a.atoms c) (filledL b.atoms c))) := rfl
  clear h1 h2 h3 h4 ha hb hc hi_
  go_enter Try.func252, Try.ntmps252
  have k0 : Blk ((w.alloc (.cells #[.slice A1 a.facts.length c1, .slice A2 a.atoms.length c2] tAs)).alloc (.cells #[.slice A3 b.facts.length c3, .slice A4 b.atoms.length c4] tAs)) w.heap.size tAs #[.slice A1 a.facts.length c1, .slice A2 a.atoms.length c2] := blks
  have k1 : Blk ((w.alloc (.cells #[.slice A1 a.facts.length c1, .slice A2 a.atoms.length c2] tAs)).alloc (.cells #[.slice A3 b.facts.length c3, .slice A4 b.atoms.length c4] tAs)) (w.heap.size + 1) tAs #[.slice A3 b.facts.length c3, .slice A4 b.atoms.length c4] := blks
  go_wp2_with fail
  cases hf : fitsS c b.facts
  · have E : Hid (caseB a b c = false) := by show _ = _; rw [HE.out, hf]; rfl
    have HF := Lib.hid hf
    clear hf
    refine wp_region_noPanic ?_
    refine wp_region_held_drew (S := (fun w' => (∀ i, w'.cell? ⟨w.heap.size, i, none⟩ = #[.slice A1 a.facts.length c1, .slice A2 a.atoms.length c2][i]?) ∧ (∀ i, w'.cell? ⟨w.heap.size + 1, i, none⟩ = #[.slice A3 b.facts.length c3, .slice A4 b.atoms.length c4][i]?))) (by kernel_rfl) (⟨Blk.cell blks, Blk.cell blks⟩) (fun hHeld => ?_)
    refine wpAnyH_take (i := 0) (v := ?_) rfl (by kernel_rfl) (by kernel_rfl) (by kernel_rfl) (fun _ _ _ h => h) (Or.inl ⟨by rfl, fun w hSw => ?_⟩) hHeld ?_
    rotate_left
    · ((try dsimp only at hSw); go_split_ands; go_simp; (try with_reducible rfl))
    try simp only [Act.put, List.getElem_toArray, List.getElem_cons_zero, List.getElem_cons_succ, List.setIfInBounds_toArray, List.set_cons_zero, List.set_cons_succ]
    refine wpAnyH_take (i := 1) (v := ?_) rfl (by kernel_rfl) (by kernel_rfl) (by kernel_rfl) (fun _ _ _ h => h) (Or.inl ⟨by rfl, fun w hSw => ?_⟩) hHeld ?_
    rotate_left
    · ((try dsimp only at hSw); go_split_ands; go_simp; (try with_reducible rfl))
    try simp only [Act.put, List.getElem_toArray, List.getElem_cons_zero, List.getElem_cons_succ, List.setIfInBounds_toArray, List.set_cons_zero, List.set_cons_succ]
    refine wpAnyH_take (i := 2) (v := ?_) rfl (by kernel_rfl) (by kernel_rfl) (by kernel_rfl) (fun _ _ _ h => h) (Or.inl ⟨by rfl, fun w hSw => ?_⟩) hHeld ?_
    rotate_left
    · ((try dsimp only at hSw); go_split_ands; go_simp; (try with_reducible rfl))
    try simp only [Act.put, List.getElem_toArray, List.getElem_cons_zero, List.getElem_cons_succ, List.setIfInBounds_toArray, List.set_cons_zero, List.set_cons_succ]
    refine wpAnyH_ready (rs := [3]) (by kernel_rfl) (by simp) ?_
    refine AllReadyH.cons rfl (fun K hK => ?_) AllReadyH.nil
    try simp only [List.getElem_toArray, List.getElem_cons_zero, List.getElem_cons_succ]
    (go_simp; refine (c_fits9 A3 B c3 cc b.facts c _ (H3.out.below bel) (HI.out.below bel) HC.out HBV.out.1).mono ?_; rintro e w1 ⟨rfl, rfl⟩; rw [HF.out])
    refine hK.out _ _ (⟨Blk.cell blks, Blk.cell blks⟩) (fun hHeldN => ?_)
    clear hHeld hK K
    have hHeld := hHeldN
    clear hHeldN
    try simp only [Act.put, List.getElem_toArray, List.getElem_cons_zero, List.getElem_cons_succ, List.setIfInBounds_toArray, List.set_cons_zero, List.set_cons_succ]
    refine wpAnyH_take (i := 4) (v := ?_) rfl (by kernel_rfl) (by kernel_rfl) (by kernel_rfl) (fun _ _ _ h => h) (Or.inl ⟨by rfl, fun w hSw => ?_⟩) hHeld ?_
    rotate_left
    · ((try dsimp only at hSw); go_split_ands; go_simp; (try with_reducible rfl))
    try simp only [Act.put, List.getElem_toArray, List.getElem_cons_zero, List.getElem_cons_succ, List.setIfInBounds_toArray, List.set_cons_zero, List.set_cons_succ]
    refine wpAnyH_take (i := 5) (v := undef) rfl (by kernel_rfl) (by kernel_rfl) (by kernel_rfl) (fun _ _ _ h => h) (Or.inr ⟨by rfl, rfl⟩) hHeld ?_
    try simp only [Act.put, List.getElem_toArray, List.getElem_cons_zero, List.getElem_cons_succ, List.setIfInBounds_toArray, List.set_cons_zero, List.set_cons_succ]
    refine wpAnyH_take (i := 6) (v := undef) rfl (by kernel_rfl) (by kernel_rfl) (by kernel_rfl) (fun _ _ _ h => h) (Or.inr ⟨by rfl, rfl⟩) hHeld ?_
    try simp only [Act.put, List.getElem_toArray, List.getElem_cons_zero, List.getElem_cons_succ, List.setIfInBounds_toArray, List.set_cons_zero, List.set_cons_succ]
    refine wpAnyH_take (i := 7) (v := undef) rfl (by kernel_rfl) (by kernel_rfl) (by kernel_rfl) (fun _ _ _ h => h) (Or.inr ⟨by rfl, rfl⟩) hHeld ?_
    try simp only [Act.put, List.getElem_toArray, List.getElem_cons_zero, List.getElem_cons_succ, List.setIfInBounds_toArray, List.set_cons_zero, List.set_cons_succ]
    refine wpAnyH_take (i := 8) (v := undef) rfl (by kernel_rfl) (by kernel_rfl) (by kernel_rfl) (fun _ _ _ h => h) (Or.inr ⟨by rfl, rfl⟩) hHeld ?_
    try simp only [Act.put, List.getElem_toArray, List.getElem_cons_zero, List.getElem_cons_succ, List.setIfInBounds_toArray, List.set_cons_zero, List.set_cons_succ]
    refine wpAnyH_take (i := 9) (v := undef) rfl (by kernel_rfl) (by kernel_rfl) (by kernel_rfl) (fun _ _ _ h => h) (Or.inr ⟨by rfl, rfl⟩) hHeld ?_
    try simp only [Act.put, List.getElem_toArray, List.getElem_cons_zero, List.getElem_cons_succ, List.setIfInBounds_toArray, List.set_cons_zero, List.set_cons_succ]
    refine wpAnyH_take (i := 10) (v := undef) rfl (by kernel_rfl) (by kernel_rfl) (by kernel_rfl) (fun _ _ _ h => h) (Or.inr ⟨by rfl, rfl⟩) hHeld ?_
    try simp only [Act.put, List.getElem_toArray, List.getElem_cons_zero, List.getElem_cons_succ, List.setIfInBounds_toArray, List.set_cons_zero, List.set_cons_succ]
    refine wpAnyH_take (i := 11) (v := undef) rfl (by kernel_rfl) (by kernel_rfl) (by kernel_rfl) (fun _ _ _ h => h) (Or.inr ⟨by rfl, rfl⟩) hHeld ?_
    try simp only [Act.put, List.getElem_toArray, List.getElem_cons_zero, List.getElem_cons_succ, List.setIfInBounds_toArray, List.set_cons_zero, List.set_cons_succ]
    refine wpAnyH_take (i := 12) (v := undef) rfl (by kernel_rfl) (by kernel_rfl) (by kernel_rfl) (fun _ _ _ h => h) (Or.inr ⟨by rfl, rfl⟩) hHeld ?_
    try simp only [Act.put, List.getElem_toArray, List.getElem_cons_zero, List.getElem_cons_succ, List.setIfInBounds_toArray, List.set_cons_zero, List.set_cons_succ]
    refine wpAnyH_take (i := 13) (v := undef) rfl (by kernel_rfl) (by kernel_rfl) (by kernel_rfl) (fun _ _ _ h => h) (Or.inr ⟨by rfl, rfl⟩) hHeld ?_
    try simp only [Act.put, List.getElem_toArray, List.getElem_cons_zero, List.getElem_cons_succ, List.setIfInBounds_toArray, List.set_cons_zero, List.set_cons_succ]
    refine wpAnyH_take (i := 14) (v := ?_) rfl (by kernel_rfl) (by kernel_rfl) (by kernel_rfl) (fun _ _ _ h => h) (Or.inl ⟨by rfl, fun w hSw => ?_⟩) hHeld ?_
    rotate_left
    · ((try dsimp only at hSw); go_split_ands; go_simp; (try with_reducible rfl))
    try simp only [Act.put, List.getElem_toArray, List.getElem_cons_zero, List.getElem_cons_succ, List.setIfInBounds_toArray, List.set_cons_zero, List.set_cons_succ]
    refine wpAnyH_take (i := 15) (v := ?_) rfl (by kernel_rfl) (by kernel_rfl) (by kernel_rfl) (fun _ _ _ h => h) (Or.inl ⟨by rfl, fun w hSw => ?_⟩) hHeld ?_
    rotate_left
    · ((try dsimp only at hSw); go_split_ands; go_simp; (try with_reducible rfl))
    try simp only [Act.put, List.getElem_toArray, List.getElem_cons_zero, List.getElem_cons_succ, List.setIfInBounds_toArray, List.set_cons_zero, List.set_cons_succ]
    refine wpAnyH_done (by kernel_rfl) ?_ _
    refine NoPanic.normal ?_
    go_wp2_with fail
    go_ret
    exact ⟨ret_bool (by rw [E.out]), bel⟩
  · have E : Hid (caseB a b c = matchB (filledL a.atoms c) (filledL b.atoms c)) := by show _ = _; rw [HE.out, hf]; rfl
    have HF := Lib.hid hf
    clear hf
    refine wp_region_noPanic ?_
    refine wp_region_held_drew (S := (fun w' => (∀ i, w'.cell? ⟨w.heap.size, i, none⟩ = #[.slice A1 a.facts.length c1, .slice A2 a.atoms.length c2][i]?) ∧ (∀ i, w'.cell? ⟨w.heap.size + 1, i, none⟩ = #[.slice A3 b.facts.length c3, .slice A4 b.atoms.length c4][i]?))) (by kernel_rfl) (⟨Blk.cell blks, Blk.cell blks⟩) (fun hHeld => ?_)
    refine wpAnyH_take (i := 0) (v := ?_) rfl (by kernel_rfl) (by kernel_rfl) (by kernel_rfl) (fun _ _ _ h => h) (Or.inl ⟨by rfl, fun w hSw => ?_⟩) hHeld ?_
    rotate_left
    · ((try dsimp only at hSw); go_split_ands; go_simp; (try with_reducible rfl))
    try simp only [Act.put, List.getElem_toArray, List.getElem_cons_zero, List.getElem_cons_succ, List.setIfInBounds_toArray, List.set_cons_zero, List.set_cons_succ]
    refine wpAnyH_take (i := 1) (v := ?_) rfl (by kernel_rfl) (by kernel_rfl) (by kernel_rfl) (fun _ _ _ h => h) (Or.inl ⟨by rfl, fun w hSw => ?_⟩) hHeld ?_
    rotate_left
    · ((try dsimp only at hSw); go_split_ands; go_simp; (try with_reducible rfl))
    try simp only [Act.put, List.getElem_toArray, List.getElem_cons_zero, List.getElem_cons_succ, List.setIfInBounds_toArray, List.set_cons_zero, List.set_cons_succ]
    refine wpAnyH_take (i := 2) (v := ?_) rfl (by kernel_rfl) (by kernel_rfl) (by kernel_rfl) (fun _ _ _ h => h) (Or.inl ⟨by rfl, fun w hSw => ?_⟩) hHeld ?_
    rotate_left
    · ((try dsimp only at hSw); go_split_ands; go_simp; (try with_reducible rfl))
    try simp only [Act.put, List.getElem_toArray, List.getElem_cons_zero, List.getElem_cons_succ, List.setIfInBounds_toArray, List.set_cons_zero, List.set_cons_succ]
    refine wpAnyH_ready (rs := [3]) (by kernel_rfl) (by simp) ?_
    refine AllReadyH.cons rfl (fun K hK => ?_) AllReadyH.nil
    try simp only [List.getElem_toArray, List.getElem_cons_zero, List.getElem_cons_succ]
    (go_simp; refine (c_fits9 A3 B c3 cc b.facts c _ (H3.out.below bel) (HI.out.below bel) HC.out HBV.out.1).mono ?_; rintro e w1 ⟨rfl, rfl⟩; rw [HF.out])
    refine hK.out _ _ (⟨Blk.cell blks, Blk.cell blks⟩) (fun hHeldN => ?_)
    clear hHeld hK K
    have hHeld := hHeldN
    clear hHeldN
    try simp only [Act.put, List.getElem_toArray, List.getElem_cons_zero, List.getElem_cons_succ, List.setIfInBounds_toArray, List.set_cons_zero, List.set_cons_succ]
    refine wpAnyH_take (i := 4) (v := ?_) rfl (by kernel_rfl) (by kernel_rfl) (by kernel_rfl) (fun _ _ _ h => h) (Or.inl ⟨by rfl, fun w hSw => ?_⟩) hHeld ?_
    rotate_left
    · ((try dsimp only at hSw); go_split_ands; go_simp; (try with_reducible rfl))
    try simp only [Act.put, List.getElem_toArray, List.getElem_cons_zero, List.getElem_cons_succ, List.setIfInBounds_toArray, List.set_cons_zero, List.set_cons_succ]
    refine wpAnyH_take (i := 5) (v := ?_) rfl (by kernel_rfl) (by kernel_rfl) (by kernel_rfl) (fun _ _ _ h => h) (Or.inl ⟨by rfl, fun w hSw => ?_⟩) hHeld ?_
    rotate_left
    · ((try dsimp only at hSw); go_split_ands; go_simp; (try with_reducible rfl))
    try simp only [Act.put, List.getElem_toArray, List.getElem_cons_zero, List.getElem_cons_succ, List.setIfInBounds_toArray, List.set_cons_zero, List.set_cons_succ]
    refine wpAnyH_take (i := 6) (v := ?_) rfl (by kernel_rfl) (by kernel_rfl) (by kernel_rfl) (fun _ _ _ h => h) (Or.inl ⟨by rfl, fun w hSw => ?_⟩) hHeld ?_
    rotate_left
    · ((try dsimp only at hSw); go_split_ands; go_simp; (try with_reducible rfl))
    try simp only [Act.put, List.getElem_toArray, List.getElem_cons_zero, List.getElem_cons_succ, List.setIfInBounds_toArray, List.set_cons_zero, List.set_cons_succ]
    refine wpAnyH_take (i := 7) (v := ?_) rfl (by kernel_rfl) (by kernel_rfl) (by kernel_rfl) (fun _ _ _ h => h) (Or.inl ⟨by rfl, fun w hSw => ?_⟩) hHeld ?_
    rotate_left
    · ((try dsimp only at hSw); go_split_ands; go_simp; (try with_reducible rfl))
    try simp only [Act.put, List.getElem_toArray, List.getElem_cons_zero, List.getElem_cons_succ, List.setIfInBounds_toArray, List.set_cons_zero, List.set_cons_succ]
    refine wpAnyH_take (i := 9) (v := ?_) rfl (by kernel_rfl) (by kernel_rfl) (by kernel_rfl) (fun _ _ _ h => h) (Or.inl ⟨by rfl, fun w hSw => ?_⟩) hHeld ?_
    rotate_left
    · ((try dsimp only at hSw); go_split_ands; go_simp; (try with_reducible rfl))
    try simp only [Act.put, List.getElem_toArray, List.getElem_cons_zero, List.getElem_cons_succ, List.setIfInBounds_toArray, List.set_cons_zero, List.set_cons_succ]
    refine wpAnyH_take (i := 10) (v := ?_) rfl (by kernel_rfl) (by kernel_rfl) (by kernel_rfl) (fun _ _ _ h => h) (Or.inl ⟨by rfl, fun w hSw => ?_⟩) hHeld ?_
    rotate_left
    · ((try dsimp only at hSw); go_split_ands; go_simp; (try with_reducible rfl))
    try simp only [Act.put, List.getElem_toArray, List.getElem_cons_zero, List.getElem_cons_succ, List.setIfInBounds_toArray, List.set_cons_zero, List.set_cons_succ]
    refine wpAnyH_take (i := 11) (v := ?_) rfl (by kernel_rfl) (by kernel_rfl) (by kernel_rfl) (fun _ _ _ h => h) (Or.inl ⟨by rfl, fun w hSw => ?_⟩) hHeld ?_
    rotate_left
    · ((try dsimp only at hSw); go_split_ands; go_simp; (try with_reducible rfl))
    try simp only [Act.put, List.getElem_toArray, List.getElem_cons_zero, List.getElem_cons_succ, List.setIfInBounds_toArray, List.set_cons_zero, List.set_cons_succ]
    refine wpAnyH_ready (rs := [8]) (by kernel_rfl) (by simp) ?_
    refine AllReadyH.cons rfl (fun K hK => ?_) AllReadyH.nil
    try simp only [List.getElem_toArray, List.getElem_cons_zero, List.getElem_cons_succ]
    (go_simp; refine (c_filled9 A2 B c2 cc a.atoms c _ (H2.out.below bel) (HI.out.below bel) HC.out HA.out.2).mono ?_; rintro e w2 ⟨r2, rfl, o2, hB2⟩; obtain ⟨X2, x2, rfl, v2⟩ := o2.reads; have hBx := bgo (w := w) bel hB2; replace k0 := Blk.next (g := w.heap.size) blks hB2; replace k1 := Blk.next (g := w.heap.size + 1) blks hB2)
    refine hK.out _ _ (⟨Blk.cell blks, Blk.cell blks⟩) (fun hHeldN => ?_)
    clear hHeld hK K
    have hHeld := hHeldN
    clear hHeldN
    try simp only [Act.put, List.getElem_toArray, List.getElem_cons_zero, List.getElem_cons_succ, List.setIfInBounds_toArray, List.set_cons_zero, List.set_cons_succ]
    refine wpAnyH_ready (rs := [12]) (by kernel_rfl) (by simp) ?_
    refine AllReadyH.cons rfl (fun K hK => ?_) AllReadyH.nil
    try simp only [List.getElem_toArray, List.getElem_cons_zero, List.getElem_cons_succ]
    (go_simp; refine (c_filled9 A4 B c4 cc b.atoms c _ (H4.out.below bel) (HI.out.below bel) HC.out HBV.out.2).mono ?_; rintro e w3 ⟨r3, rfl, o3, hB3⟩; obtain ⟨X3, x3, rfl, v3⟩ := o3.reads; have hz3 := hB3.size; have hBy := bgo (w := w) hBx hB3; have v2' := v2.below hB3; replace k0 := Blk.next (g := w.heap.size) blks hB3; replace k1 := Blk.next (g := w.heap.size + 1) blks hB3)
    refine hK.out _ _ (⟨Blk.cell blks, Blk.cell blks⟩) (fun hHeldN => ?_)
    clear hHeld hK K
    have hHeld := hHeldN
    clear hHeldN
    try simp only [Act.put, List.getElem_toArray, List.getElem_cons_zero, List.getElem_cons_succ, List.setIfInBounds_toArray, List.set_cons_zero, List.set_cons_succ]
    refine wpAnyH_ready (rs := [13]) (by kernel_rfl) (by simp) ?_
    refine AllReadyH.cons rfl (fun K hK => ?_) AllReadyH.nil
    try simp only [List.getElem_toArray, List.getElem_cons_zero, List.getElem_cons_succ]
    (go_simp; refine (c_spec_l6Match X2 X3 x2 x3 (filledL a.atoms c) (filledL b.atoms c) _ (AtomsV.below v2' bel) (AtomsV.below v3 bel) (by first | omega | (simp; omega)) (by first | exact Nat.le_refl _ | (simp)) (by have := HXL.out; omega) HGO.out).mono ?_; rintro e w4 ⟨rfl, hB4⟩; have hBz := bgo (w := w) hBy hB4; replace k0 := Blk.next (g := w.heap.size) blks hB4; replace k1 := Blk.next (g := w.heap.size + 1) blks hB4)
    refine hK.out _ _ (⟨Blk.cell blks, Blk.cell blks⟩) (fun hHeldN => ?_)
    clear hHeld hK K
    have hHeld := hHeldN
    clear hHeldN
    try simp only [Act.put, List.getElem_toArray, List.getElem_cons_zero, List.getElem_cons_succ, List.setIfInBounds_toArray, List.set_cons_zero, List.set_cons_succ]
    refine wpAnyH_take (i := 14) (v := ?_) rfl (by kernel_rfl) (by kernel_rfl) (by kernel_rfl) (fun _ _ _ h => h) (Or.inl ⟨by rfl, fun w hSw => ?_⟩) hHeld ?_
    rotate_left
    · ((try dsimp only at hSw); go_split_ands; go_simp; (try with_reducible rfl))
    try simp only [Act.put, List.getElem_toArray, List.getElem_cons_zero, List.getElem_cons_succ, List.setIfInBounds_toArray, List.set_cons_zero, List.set_cons_succ]
    refine wpAnyH_take (i := 15) (v := ?_) rfl (by kernel_rfl) (by kernel_rfl) (by kernel_rfl) (fun _ _ _ h => h) (Or.inl ⟨by rfl, fun w hSw => ?_⟩) hHeld ?_
    rotate_left
    · ((try dsimp only at hSw); go_split_ands; go_simp; (try with_reducible rfl))
    try simp only [Act.put, List.getElem_toArray, List.getElem_cons_zero, List.getElem_cons_succ, List.setIfInBounds_toArray, List.set_cons_zero, List.set_cons_succ]
    refine wpAnyH_done (by kernel_rfl) ?_ _
    refine NoPanic.normal ?_
    go_wp2_with fail
    go_ret
    exact ⟨ret_bool (by rw [E.out]), hBz⟩
end Go.Proofs.Ytciabhddppdioaa

/- The two tests of a case agree on the cases. Plain; no program. -/
namespace Go.Proofs.Ytciabhddppdioaa
open Go

--@ impl.FailingCase
theorem caseB_ent {a b : Asn} (hb : b.valid = true) {c : List Int} (hc : c ∈ cases a (caseS a (tset (termsL b)))) : caseB a b c = entB a b c := by
  have hok := Asn.valid_ok hb
  have hpos : ∀ t ∈ termsL b, 0 ≤ t ∧ t ≤ 8 → 0 ≤ cl c t := by
    intro t ht h8
    obtain ⟨n, rfl⟩ := Int.eq_ofNat_of_zero_le h8.1
    refine ((CaseT.pos (a := a) ⟨c, hc⟩ n (by omega)).1 ?_).1
    rw [caseS_bit]
    have : (tset (termsL b)).testBit n = true := by
      rw [tset_bit]
      simp only [decide_eq_true_eq]
      exact ⟨termsL_ok hb _ ht, ht⟩
    simp [this]
  unfold caseB entB
  congr 1
  unfold fitsS
  have e : ∀ f ∈ b.facts, (!(decide (0 ≤ cl c f.a) && decide (0 ≤ cl c f.b) && !f.fits c)) = f.fits c := by
    intro f hf
    have h1 := hok.1 f hf
    have ht := termsL_facts hf
    rw [decide_eq_true (hpos _ ht.1 h1.1), decide_eq_true (hpos _ ht.2 h1.2)]
    simp
  rw [Bool.eq_iff_iff, List.all_eq_true, List.all_eq_true]
  constructor
  · intro h f hf
    rw [← e f hf]; exact h f hf
  · intro h f hf
    rw [e f hf]; exact h f hf
theorem head_filter {α : Type} (p : α → Bool) (l : List α) : (l.filter p).head? = l.find? p := by
  induction l with
  | nil => rfl
  | cons x xs ih => cases h : p x <;> simp [List.filter_cons, List.find?_cons, h, ih]
theorem failF_eq {a b : Asn} (hb : b.valid = true) : ((cases a (caseS a (tset (termsL b)))).filter fun c => !caseB a b c).head? = failF a b := by
  rw [head_filter]
  unfold failF
  have : ∀ (l : List (List Int)), (∀ c ∈ l, caseB a b c = entB a b c) → (l.find? fun c => !caseB a b c) = l.find? fun c => !entB a b c := by
    intro l
    induction l with
    | nil => intro _; rfl
    | cons x xs ih =>
      intro h
      rw [List.find?_cons, List.find?_cons, h x List.mem_cons_self, ih fun y hy => h y (List.mem_cons_of_mem _ hy)]
  exact this _ fun c hc => caseB_ent hb hc
end Go.Proofs.Ytciabhddppdioaa

/- Contracts: the terms of both. -/
namespace Go.Proofs.Ytciabhddppdioaa
open Go Go.RowKit Go.Proofs
attribute [local go_sem ↓] Go.wp_at_zero Go.wp_at_succ

--@ spec.l6Both
set_option maxRecDepth 100000 in
set_option maxHeartbeats 3200000 in
theorem c_spec_l6Both {lo hi lo' hi' : Nat} (v v' : Value) (a b : Asn) (w : World) (h : AsnV w lo hi v a) (h' : AsnV w lo' hi' v' b) (hn1 : a.facts.length + b.facts.length ≤ 1049600) (hn2 : a.atoms.length + b.atoms.length ≤ 1049600) (ht : ∀ t ∈ termsL (starA a b), isTermB t = true) :
    Calls Try.prog 240 #[v, v'] w fun e w' => ∃ r, e = .returned r ∧ BoolsO w' w.heap.size r (flagsOf (tset (termsL (starA a b)))) ∧ Below w.heap.size w w' := by
  obtain ⟨A1, c1, A2, c2, rfl, h1, h2⟩ := h
  obtain ⟨A3, c3, A4, c4, rfl, h3, h4⟩ := h'
  go_enter Try.func240, Try.ntmps240
  have HTT := Lib.hid ht
  clear ht
  have hB : Below w.heap.size w ((w.alloc (.cells #[.slice A1 a.facts.length c1, .slice A2 a.atoms.length c2] 41)).alloc (.cells #[.slice A3 b.facts.length c3, .slice A4 b.atoms.length c4] 41)) := bel
  have k0 : Blk ((w.alloc (.cells #[.slice A1 a.facts.length c1, .slice A2 a.atoms.length c2] 41)).alloc (.cells #[.slice A3 b.facts.length c3, .slice A4 b.atoms.length c4] 41)) w.heap.size tAs #[.slice A1 a.facts.length c1, .slice A2 a.atoms.length c2] := blks
  have k1 : Blk ((w.alloc (.cells #[.slice A1 a.facts.length c1, .slice A2 a.atoms.length c2] 41)).alloc (.cells #[.slice A3 b.facts.length c3, .slice A4 b.atoms.length c4] 41)) (w.heap.size + 1) tAs #[.slice A3 b.facts.length c3, .slice A4 b.atoms.length c4] := blks
  go_wp2_with fail
  have hz := k1.lt
  generalize ((w.alloc (.cells #[.slice A1 a.facts.length c1, .slice A2 a.atoms.length c2] 41)).alloc (.cells #[.slice A3 b.facts.length c3, .slice A4 b.atoms.length c4] 41)) = W at k0 k1 hB hz ⊢
  have tok3 : True := trivial
  have tok6 : True := trivial
  have tok10 : True := trivial
  have tok13 : True := trivial
  have tok15 : True := trivial
  go_region_held3 (fun w' => (∀ i, w'.cell? ⟨w.heap.size, i, none⟩ = #[.slice A1 a.facts.length c1, .slice A2 a.atoms.length c2][i]?) ∧ (∀ i, w'.cell? ⟨w.heap.size + 1, i, none⟩ = #[.slice A3 b.facts.length c3, .slice A4 b.atoms.length c4][i]?))
    (exact ⟨Blk.cell blks, Blk.cell blks⟩)
    (first
      | (have _t := tok3; clear _t tok3; refine stepFL (xs := []) rfl _ _ rfl rfl (FactsO.ofBlk (base := w.heap.size) blks (by first | omega | (simp; omega))) rfl (h1.below bel) (by first | omega | (simp; omega)) (by first | omega | (simp; omega)) ?_; intro F1 e1 w1 hO1 hg1 hB1; have hBw1 : Below w.heap.size w w1 := Below.trans bel hB1; simp only [List.nil_append] at hO1; have m10 := Blk.grownO (g := w.heap.size) (hg := hg1) blks (FactsO.ofBlk (base := w.heap.size) blks (by first | omega | (simp; omega))).1 (by decide); have m11 := Blk.grownO (g := w.heap.size + 1) (hg := hg1) blks (FactsO.ofBlk (base := w.heap.size) blks (by first | omega | (simp; omega))).1 (by decide); have lt1 := m11.lt; (try (have za : Blk w1 (W.heap.size + 1) tA #[] := ?zz; case zz => (refine Blk.grownO (hg := hg1) ?_ (FactsO.ofBlk (base := w.heap.size) blks (by first | omega | (simp; omega))).1 (by decide); (repeat (first | (with_reducible assumption) | (with_reducible exact Blk.new _ _ _) | ((with_reducible apply Blk.far); (case hp => (first | exact Nat.le_refl _ | (simp; done) | (simp; omega) | (simp only; omega) | omega))) | (with_reducible apply Blk.set_) | ((with_reducible refine Blk.newE ?_); (simp; done)) | (with_reducible apply Blk.alloc) | (with_reducible apply Blk.drew) | (with_reducible apply Blk.drewN))); done))); (try (have za : Blk w1 W.heap.size tA #[] := ?zz; case zz => (refine Blk.grownO (hg := hg1) ?_ (FactsO.ofBlk (base := w.heap.size) blks (by first | omega | (simp; omega))).1 (by decide); (repeat (first | (with_reducible assumption) | (with_reducible exact Blk.new _ _ _) | ((with_reducible apply Blk.far); (case hp => (first | exact Nat.le_refl _ | (simp; done) | (simp; omega) | (simp only; omega) | omega))) | (with_reducible apply Blk.set_) | ((with_reducible refine Blk.newE ?_); (simp; done)) | (with_reducible apply Blk.alloc) | (with_reducible apply Blk.drew) | (with_reducible apply Blk.drewN))); done))))
      | (have _t := tok6; clear _t tok6; refine stepFL (xs := a.facts) rfl _ _ rfl rfl (FactsO.below (w := w1) hO1 bel) rfl (h3.below bel) (by first | omega | (simp; omega)) (by first | omega | (simp; omega)) ?_; intro F2 e2 w2 hO2 hg2 hB2; have hBw2 : Below w.heap.size w w2 := Below.trans bel hB2; have m20 := Blk.grownO (g := w.heap.size) (hg := hg2) blks (FactsO.below (w := w1) hO1 bel).1 (by decide); have m21 := Blk.grownO (g := w.heap.size + 1) (hg := hg2) blks (FactsO.below (w := w1) hO1 bel).1 (by decide); have lt2 := m21.lt; (try (have zb : Blk w2 w1.heap.size tA #[] := ?zz; case zz => (refine Blk.grownO (hg := hg2) ?_ (FactsO.below (w := w1) hO1 bel).1 (by decide); (repeat (first | (with_reducible assumption) | (with_reducible exact Blk.new _ _ _) | ((with_reducible apply Blk.far); (case hp => (first | exact Nat.le_refl _ | (simp; done) | (simp; omega) | (simp only; omega) | omega))) | (with_reducible apply Blk.set_) | ((with_reducible refine Blk.newE ?_); (simp; done)) | (with_reducible apply Blk.alloc) | (with_reducible apply Blk.drew) | (with_reducible apply Blk.drewN))); done))); (try (have zb := Blk.grownO (hg := hg2) (Blk.next za bel) (FactsO.below (w := w1) hO1 bel).1 (by decide))))
      | (have _t := tok10; clear _t tok10; refine stepAL (xs := []) rfl _ _ rfl rfl (AtomsO.ofBlk (base := w.heap.size) blks (by first | omega | (simp; omega))) rfl (h2.below bel) (by first | omega | (simp; omega)) (by first | omega | (simp; omega)) ?_; intro F3 e3 w3 hO3 hg3 hB3; have hBw3 : Below w.heap.size w w3 := Below.trans bel hB3; simp only [List.nil_append] at hO3; have m30 := Blk.grownO (g := w.heap.size) (hg := hg3) blks (AtomsO.ofBlk (base := w.heap.size) blks (by first | omega | (simp; omega))).1 (by decide); have m31 := Blk.grownO (g := w.heap.size + 1) (hg := hg3) blks (AtomsO.ofBlk (base := w.heap.size) blks (by first | omega | (simp; omega))).1 (by decide); have lt3 := m31.lt; have hP3 := FactsO.grownA (FactsO.below (w := w2) hO2 bel) (AtomsO.ofBlk (base := w.heap.size) blks (by first | omega | (simp; omega))) hg3)
      | (have _t := tok13; clear _t tok13; refine stepAL (xs := a.atoms) rfl _ _ rfl rfl (AtomsO.below (w := w3) hO3 bel) rfl (h4.below bel) (by first | omega | (simp; omega)) (by first | omega | (simp; omega)) ?_; intro F4 e4 w4 hO4 hg4 hB4; have hBw4 : Below w.heap.size w w4 := Below.trans bel hB4; have m40 := Blk.grownO (g := w.heap.size) (hg := hg4) blks (AtomsO.below (w := w3) hO3 bel).1 (by decide); have m41 := Blk.grownO (g := w.heap.size + 1) (hg := hg4) blks (AtomsO.below (w := w3) hO3 bel).1 (by decide); have lt4 := m41.lt; have hP4 := FactsO.grownA (FactsO.below (w := w3) hP3 bel) (AtomsO.below (w := w3) hO3 bel) hg4)
      | (have _t := tok15; clear _t tok15; go_at_call 129; have hS : AsnO w4 w.heap.size (.agg #[.slice F2 (a.facts.length + b.facts.length) e2, .slice F4 (a.atoms.length + b.atoms.length) e4]) (starA a b) := (⟨_, _, rfl, (by first | exact hP4 | (rw [← List.length_append]; exact hP4)), (by first | exact hO4 | (rw [← List.length_append]; exact hO4))⟩); refine (c_spec_l3Terms _ (starA a b) w4 hS.reads HTT.out).mono ?_; rintro e w5 ⟨r5, rfl, o5, hB5⟩; have hBw5 : Below w.heap.size w w5 := bgo hBw4 hB5; have m50 := m40.next hB5; have m51 := m41.next hB5; have lt5 := m51.lt; have hz5 := hBw4.size))
  all_goals
    go_wp2_with fail
    go_ret
    exact ⟨r5, rfl, o5.lower hz5, hBw5⟩
end Go.Proofs.Ytciabhddppdioaa

/- Contracts: the spec's search for the first failing case. -/
namespace Go.Proofs.Ytciabhddppdioaa
open Go Go.RowKit Go.Proofs
attribute [local go_sem ↓] Go.wp_at_zero Go.wp_at_succ

--@ spec.l6Seek
/-- the failing cases behind a beginning -/
def seekF (a b : Asn) (S n : Nat) (c : List Int) : List (List Int) := (seek a S n c).filter fun d => !caseB a b d
def seekFAt (a b : Asn) (S n : Nat) (c : List Int) (k : Nat) : List (List Int) := if k < 8 - n ∧ cl c k ≠ k then [] else seekF a b S n (c.set (8 - n) k)
theorem seekF_cut {a b : Asn} {S : Nat} (n : Nat) {c : List Int} (h : (fitsS c a.facts && earlyF c [] a.atoms) = false) : seekF a b S n c = [] := by
  unfold seekF; rw [seek_cut n h]; rfl
theorem seekF_leaf {a b : Asn} {S : Nat} {c : List Int} (h : (fitsS c a.facts && earlyF c [] a.atoms) = true) : seekF a b S 0 c = if apartF [] (filledL a.atoms c) then (if caseB a b c then [] else [c]) else [] := by
  unfold seekF; rw [seek_leaf h]
  cases apartF [] (filledL a.atoms c) <;> cases e : caseB a b c <;> simp [e]
theorem seekF_step {a b : Asn} {S n : Nat} {c : List Int} (h : (fitsS c a.facts && earlyF c [] a.atoms) = true) : seekF a b S (n + 1) c = if S.testBit (8 - n) then (List.range (9 - n)).flatMap (seekFAt a b S n c) else seekF a b S n c := by
  unfold seekF
  rw [seek_step h]
  split
  · rw [List.filter_flatMap]
    apply flatMap_congr'
    intro k _
    unfold seekAt seekFAt seekF
    split <;> rfl
  · rfl
set_option maxRecDepth 100000 in
set_option maxHeartbeats 6400000 in
theorem c_spec_l6Seek {a b : Asn} {S lo hi lo2 hi2 lo3 hi3 : Nat} {A1 A2 A3 A4 : Option Addr} {d1 d2 d3 d4 : Nat} (T : Option Addr) (tc : Nat) (hv : a.valid = true) (hvb : b.valid = true) :
    ∀ (n : Nat) (c : List Int) (B : Option Addr) (cc lo' hi' : Nat) (w : World), n ≤ 8 → c.length = 9 → (∀ j : Nat, j < 9 - n → S.testBit j = true → 0 ≤ cl c j ∧ cl c j ≤ j) → (∀ j : Nat, j < 9 → cl c j ≤ 8) →
      AsnV w lo hi (.agg #[.slice A1 a.facts.length d1, .slice A2 a.atoms.length d2]) a → AsnV w lo3 hi3 (.agg #[.slice A3 b.facts.length d3, .slice A4 b.atoms.length d4]) b → BoolsV w lo2 hi2 T (flagsOf S) → IntsV w lo' hi' B c →
      Calls Try.prog 239 #[.agg #[.slice A1 a.facts.length d1, .slice A2 a.atoms.length d2], .agg #[.slice A3 b.facts.length d3, .slice A4 b.atoms.length d4], .slice T 9 tc, .slice B 9 cc, .int .i64 ((9 - n : Nat) : Int)] w fun e w' =>
        ∃ r, e = .returned (.tuple #[r, .bool (!(seekF a b S n c).isEmpty)]) ∧ IntsO w' w.heap.size r (firstI (seekF a b S n c)) ∧ Below w.heap.size w w' := by
  intro n
  induction n with
  | zero =>
    intro c B cc lo' hi' w hn hc _ hc8 hA hAb hT hI
    have HO0 := Lib.hid hv
    have HO := Lib.hid (Asn.valid_ok hv)
    have hV := Lib.hid hA
    have hVb := Lib.hid hAb
    have HVB := Lib.hid hvb
    have HC := Lib.hid hc
    have HI := Lib.hid hI
    have HCL : Hid (∀ x ∈ a.atoms, cl c x.a ≤ 8) := fun x hx => by
      have := (HO.out.2 x hx).1
      obtain ⟨t, et⟩ := Int.eq_ofNat_of_zero_le this.1
      rw [et]; exact hc8 t (by omega)
    obtain ⟨B1, e1, B2, e2, he, h1, h2⟩ := hA
    injection he with he; injection he with he; injection he with he1 he2; injection he2 with he2 he3
    injection he1 with he1 _ he4; injection he2 with he2 _ he5
    subst he1 he4 he2 he5
    have H1 := Lib.hid h1
    have H2 := Lib.hid h2
    have hvl := valid_len hv
    clear h1 h2 hc hc8 hT hI he3 hAb
    go_enter Try.func239, Try.ntmps239
    go_wp2_with fail
    refine (c_fits9 A1 B d1 cc a.facts c _ (H1.out.below bel) (HI.out.below bel) HC.out HO.out.1).mono ?_
    rintro e w1 ⟨rfl, rfl⟩
    cases hf : fitsS c a.facts
    · have E := Lib.hid (seekF_cut (a := a) (b := b) (S := S) 0 (c := c) (by rw [hf]; rfl))
      clear hf
      go_wp2_with fail
      go_ret2
      exact ⟨_, by rw [E.out]; rfl, by rw [E.out]; exact IntsO.lower (IntsO.empty _ (by first | rfl | simp)) (by first | omega | simp), bel⟩
    have HF := Lib.hid hf
    clear hf
    go_wp2_with fail
    refine (c_early9 A2 B d2 cc a.atoms c _ (H2.out.below bel) (HI.out.below bel) HC.out HO.out.2 HCL.out).mono ?_
    rintro e w2 ⟨rfl, hB2⟩
    have hB : Below w.heap.size w w2 := bgo (w := w) bel hB2
    have k0 : Blk w2 w.heap.size tAs #[.slice A1 a.facts.length d1, .slice A2 a.atoms.length d2] := Blk.next blks hB2
    have kb : Blk w2 (w.heap.size + 1) tAs #[.slice A3 b.facts.length d3, .slice A4 b.atoms.length d4] := Blk.next blks hB2
    have q0 := k0.cell
    have l0 := k0.lt
    have qb := kb.cell
    have lb := kb.lt
    clear hB2
    cases he : earlyF c [] a.atoms
    · have E := Lib.hid (seekF_cut (a := a) (b := b) (S := S) 0 (c := c) (by rw [HF.out, he]; rfl))
      clear he
      go_wp2_with fail
      go_ret2
      exact ⟨_, by rw [E.out]; rfl, by rw [E.out]; exact IntsO.lower (IntsO.empty _ rfl) (by omega), bel⟩
    have E0 := Lib.hid (seekF_leaf (a := a) (b := b) (S := S) (c := c) (by rw [HF.out, he]; rfl))
    clear he
    go_wp2_with fail
    refine (c_filled9 A2 B d2 cc a.atoms c _ (H2.out.below hB) (HI.out.below hB) HC.out HO.out.2).mono ?_
    rintro e w3 ⟨r3, rfl, o3, hB3⟩
    obtain ⟨R3, e3, rfl, v3⟩ := o3.reads
    have hBB : Below w.heap.size w w3 := bgo hB hB3
    go_wp2_with fail
    refine (c_spec_l5Apart R3 e3 (filledL a.atoms c) _ v3).mono ?_
    rintro e w4 ⟨rfl, hB4⟩
    have hB5 : Below w.heap.size w w4 := bgo hBB hB4
    have hz := hB5.size
    replace k0 := (k0.next hB3).next hB4
    replace kb := (kb.next hB3).next hB4
    (replace qk0 := k0.cell; replace rk0 := k0.frozen; replace lk0 := k0.lt; replace qkb := kb.cell; replace rkb := kb.frozen; replace lkb := kb.lt)
    clear o3 v3 hB3 hB4 hBB q0 l0 qb lb hB
    cases hap : apartF [] (filledL a.atoms c)
    · have E := Lib.hid (show seekF a b S 0 c = [] by rw [E0.out, hap]; rfl)
      clear hap
      go_wp2_with fail
      go_ret2
      exact ⟨_, by rw [E.out]; rfl, by rw [E.out]; exact IntsO.lower (IntsO.empty _ rfl) (by omega), bel⟩
    have E1 := Lib.hid (show seekF a b S 0 c = if caseB a b c then [] else [c] by rw [E0.out, hap]; cases caseB a b c <;> rfl)
    clear hap
    go_wp2_with fail
    refine (c_spec_l6Case _ _ B cc a b c _ (hV.out.below hB5) (hVb.out.below hB5) (HI.out.below hB5) HO0.out HVB.out HC.out).mono ?_
    rintro e w5 ⟨rfl, hB6⟩
    have hB7 : Below w.heap.size w w5 := bgo hB5 hB6
    replace hz := hB7.size
    clear hB6 hB5 k0 kb qk0 rk0 lk0 qkb rkb lkb
    cases hcb : caseB a b c
    · have E := Lib.hid (show seekF a b S 0 c = [c] by rw [E1.out, hcb]; rfl)
      clear hcb
      go_wp2_with (at_builtin; refine appIL (ys := c) rfl _ _ rfl (v := .slice (some ⟨w5.heap.size, 0, none⟩) 0 0) rfl (IntsO.empty w5 rfl) (by rw [HC.out]; rfl) (HI.out.below bel) (by rw [HC.out]; simp) (by simp) ?_; intro A' c' w6 o6 hg6 hB8; rw [List.nil_append, HC.out])
      go_ret2
      exact ⟨_, by rw [E.out]; rfl, by rw [E.out]; rw [List.nil_append, HC.out] at o6; exact o6.lower hz, Below.trans bel (hB8.mono hz)⟩
    · have E := Lib.hid (show seekF a b S 0 c = [] by rw [E1.out, hcb]; rfl)
      clear hcb
      go_wp2_with fail
      go_ret2
      exact ⟨_, by rw [E.out]; rfl, by rw [E.out]; exact IntsO.lower (IntsO.empty _ rfl) (by omega), bel⟩
  | succ n ih =>
    intro c B cc lo' hi' w hn hc hcl hc8 hA hAb hT hI
    have HO0 := Lib.hid hv
    have HO := Lib.hid (Asn.valid_ok hv)
    have hV := Lib.hid hA
    have hVb := Lib.hid hAb
    have HVB := Lib.hid hvb
    have HC := Lib.hid hc
    have HI := Lib.hid hI
    have HTT := Lib.hid hT
    have HC8 := Lib.hid hc8
    have HCL0 := Lib.hid hcl
    have IH := Lib.hid ih
    have HCL : Hid (∀ x ∈ a.atoms, cl c x.a ≤ 8) := fun x hx => by
      have := (HO.out.2 x hx).1
      obtain ⟨t, et⟩ := Int.eq_ofNat_of_zero_le this.1
      rw [et]; exact hc8 t (by omega)
    obtain ⟨B1, e1, B2, e2, he, h1, h2⟩ := hA
    injection he with he; injection he with he; injection he with he1 he2; injection he2 with he2 he3
    injection he1 with he1 _ he4; injection he2 with he2 _ he5
    subst he1 he4 he2 he5
    have H1 := Lib.hid h1
    have H2 := Lib.hid h2
    obtain ⟨tb, to, rfl, ltb⟩ := flags_addr hT
    obtain ⟨pb, ob, rfl, lpb⟩ := hI.blt (k := 0) (by omega)
    obtain ⟨m, hm8⟩ : ∃ m, m = 8 - n := ⟨_, rfl⟩
    have E1 : Hid (((9 - n : Nat) : Int) = (m : Int) + 1) := by show _ = _; omega
    rw [show 9 - (n + 1) = m from by omega] at HCL0 ⊢
    have HM8 := Lib.hid hm8
    have HN := Lib.hid hn
    have hmg : ¬ (8 < (m : Int)) := by omega
    have hmi9 : (m : Int) < 9 := by omega
    clear h1 h2 hc hc8 hcl hT hI he3 ih hm8 hn hAb
    go_enter Try.func239, Try.ntmps239
    go_wp2_with fail
    refine (c_fits9 A1 _ d1 cc a.facts c _ (H1.out.below bel) (HI.out.below bel) HC.out HO.out.1).mono ?_
    rintro e w1 ⟨rfl, rfl⟩
    cases hf : fitsS c a.facts
    · have E := Lib.hid (seekF_cut (a := a) (b := b) (S := S) (n + 1) (c := c) (by rw [hf]; rfl))
      clear hf
      go_wp2_with fail
      go_ret2
      exact ⟨_, by rw [E.out]; rfl, by rw [E.out]; exact IntsO.lower (IntsO.empty _ (by first | rfl | simp)) (by first | omega | simp), bel⟩
    have HF := Lib.hid hf
    clear hf
    go_wp2_with fail
    refine (c_early9 A2 _ d2 cc a.atoms c _ (H2.out.below bel) (HI.out.below bel) HC.out HO.out.2 HCL.out).mono ?_
    rintro e w2 ⟨rfl, hB2⟩
    have hB : Below w.heap.size w w2 := bgo (w := w) bel hB2
    have k0 : Blk w2 w.heap.size tAs #[.slice A1 a.facts.length d1, .slice A2 a.atoms.length d2] := Blk.next blks hB2
    have kb : Blk w2 (w.heap.size + 1) tAs #[.slice A3 b.facts.length d3, .slice A4 b.atoms.length d4] := Blk.next blks hB2
    have q0 := k0.cell
    have l0 := k0.lt
    have qb := kb.cell
    have lb := kb.lt
    clear hB2
    cases he : earlyF c [] a.atoms
    · have E := Lib.hid (seekF_cut (a := a) (b := b) (S := S) (n + 1) (c := c) (by rw [HF.out, he]; rfl))
      clear he
      go_wp2_with fail
      go_ret2
      exact ⟨_, by rw [E.out]; rfl, by rw [E.out]; exact IntsO.lower (IntsO.empty _ rfl) (by omega), bel⟩
    have E0 := Lib.hid (seekF_step (a := a) (b := b) (S := S) (n := n) (c := c) (by rw [HF.out, he]; rfl))
    clear he
    have qt := flags_at (HTT.out.below hB) (m := m) (by omega)
    cases ht : S.testBit m
    · rw [ht] at qt
      have E : Hid (seekF a b S (n + 1) c = seekF a b S n c) := by show _ = _; rw [E0.out, ← HM8.out, ht]; rfl
      have ih1 := IH.out c _ cc _ _ w2 (by have := HN.out; omega) HC.out (fun j hj hS => by
        by_cases e : j = m
        · subst e; rw [ht] at hS; cases hS
        · exact HCL0.out j (by have := HM8.out; have := HN.out; omega) hS) HC8.out (hV.out.below hB) (hVb.out.below hB) (HTT.out.below hB) (HI.out.below hB)
      rw [E1.out] at ih1
      have IH1 := Lib.hid ih1
      clear ih1 ht
      go_wp2_with fail
      refine IH1.out.mono ?_
      rintro e w3 ⟨r, rfl, o3, hB3⟩
      have O3 := Lib.hid o3
      have hz := hB.size
      clear o3
      go_wp2_with fail
      go_ret2
      exact ⟨r, by rw [E.out]; rfl, by rw [E.out]; exact O3.out.lower hz, bgo hB hB3⟩
    · rw [ht] at qt
      have E : Hid (seekF a b S (n + 1) c = (List.range (9 - n)).flatMap (seekFAt a b S n c)) := by show _ = _; rw [E0.out, ← HM8.out, ht]; rfl
      clear ht
      go_wp2_with fail
      go_loopw [12] (fun i wr => ∃ k : Nat, k ≤ m + 1 ∧ i = .int .i64 k ∧ Hid ((List.range k).flatMap (seekFAt a b S n c) = []) ∧ Blk wr w.heap.size tAs #[.slice A1 a.facts.length d1, .slice A2 a.atoms.length d2] ∧ Blk wr (w.heap.size + 1) tAs #[.slice A3 b.facts.length d3, .slice A4 b.atoms.length d4] ∧ Below w.heap.size w wr) (fun i _ => 9 - (intOf i).toNat)
      case atStart => exact ⟨0, Nat.zero_le _, rfl, rfl, k0, kb, hB⟩
      case round =>
        clear k0 kb hB q0 l0 qb lb qt
        obtain ⟨k, hk, rfl, HP, k0, kb, hB⟩ := hrel
        have q0 := k0.cell
        have l0 := k0.lt
        have qb := kb.cell
        have lb := kb.lt
        have hz := hB.size
        by_cases hlt : k ≤ m
        · have hki : (k : Int) ≤ (m : Int) := by omega
          have hk9 : (k : Int) < 9 := by omega
          have hkc := ints_cl (HI.out.below hB) (m := k) (by rw [HC.out]; omega)
          have HNX : Hid ((List.range (k + 1)).flatMap (seekFAt a b S n c) = seekFAt a b S n c k) := by show _ = _; rw [List.range_succ, List.flatMap_append, HP.out]; simp
          by_cases hskip : k < m ∧ cl c k ≠ k
          · have HX : Hid (seekFAt a b S n c k = []) := by show _ = _; rw [seekFAt, if_pos (by rw [← HM8.out]; exact hskip)]
            have hkm : (k : Int) < (m : Int) := by omega
            have hne : (cl c k != (k : Int)) = true := by simpa using hskip.2
            clear hskip hki hlt
            go_wp2_with fail
            go_round
            case rel => exact ⟨k + 1, by omega, by go_num, by show _ = _; rw [HNX.out, HX.out], k0, kb, hB⟩
            case measure => simp [intOf]; omega
          · have hsk2 : k < m → (cl c k != (k : Int)) = false := fun h => by
              cases Int.decEq (cl c k) k with
              | isTrue h => simp [h]
              | isFalse h' => exact absurd ⟨h, h'⟩ hskip
            have HX : Hid (seekFAt a b S n c k = seekF a b S n (c.set m k)) := by
              show _ = _
              rw [seekFAt, ← HM8.out, if_neg hskip]
            clear hskip
            have hcs : (c.set m (k : Int)).length = 9 := by simpa using HC.out
            have HCS := Lib.hid hcs
            have hcl' : ∀ j : Nat, j < 9 - n → S.testBit j = true → 0 ≤ cl (c.set m (k : Int)) j ∧ cl (c.set m (k : Int)) j ≤ j := fun j hj hSj => by
              have := HM8.out; have := HN.out
              rw [cl_set HC.out (by omega) _ (by omega)]
              split
              · omega
              · exact HCL0.out j (by omega) hSj
            have HCL' := Lib.hid hcl'
            have hc8' : ∀ j : Nat, j < 9 → cl (c.set m (k : Int)) j ≤ 8 := fun j hj => by
              rw [cl_set HC.out (by omega) _ (by omega)]
              split
              · omega
              · exact HC8.out j hj
            have HC8' := Lib.hid hc8'
            clear hcl' hc8' hcs
            obtain hkm | hkm : k < m ∨ k = m := by omega
            case' inl => have h1 : (k : Int) < (m : Int) := by omega
            case' inl => have h2 := hsk2 hkm
            case' inr => have h1 : ¬ (k : Int) < (m : Int) := by omega
            all_goals
              clear hkm hsk2
              go_wp2_with (at_builtin; refine appIL (ys := c) (base := wr.heap.size) rfl _ _ rfl (v := .slice (some ⟨wr.heap.size, 0, none⟩) 0 0) rfl (IntsO.empty wr rfl) (by rw [HC.out]; rfl) (HI.out.below bel) (by rw [HC.out]; simp) (by simp) ?_; intro A' c' w5 o5 hg5 hB6; rw [List.nil_append, HC.out] at o5 ⊢; obtain ⟨g, cur, -, rfl, hgb, kg, hcm, hset⟩ := o5.open_ (k := m) (by rw [HC.out]; omega); have qg := (kg.cell m).trans hcm; have rg := kg.frozen; have lg := kg.lt; have HSET := Lib.hid (hset k); have k5 := Blk.below (g := w.heap.size) (w := wr.alloc (.cells #[] tI)) (k0.alloc _) hB6 l0; have hB5 : Below w.heap.size w w5 := Below.trans bel (hB6.mono (by omega)); have k6 := k5.far (p := ⟨g, m, none⟩) (by simp only; omega) (.int .i64 k); have kb5 := Blk.below (g := w.heap.size + 1) (w := wr.alloc (.cells #[] tI)) (kb.alloc _) hB6 lb; have kb6 := kb5.far (p := ⟨g, m, none⟩) (by simp only; omega) (.int .i64 k); have qb6 := kb6.cell; have q6 := k6.cell; clear hset o5 kg hcm q0 qb hg5)
              have hB7 : Below w.heap.size w (w5.setCell ⟨g, m, none⟩ (.int .i64 k)) := hB5.setCell (p := ⟨g, m, none⟩) (by simp only; omega) _
              have hz7 := hB7.size
              have v7 := HSET.out.readsI.2
              have ih1 := IH.out (c.set m (k : Int)) _ c' _ _ _ (by have := HN.out; omega) HCS.out HCL'.out HC8'.out (hV.out.below hB7) (hVb.out.below hB7) (HTT.out.below hB7) v7
              rw [E1.out] at ih1
              refine ih1.mono ?_
              clear ih1 v7 q6 k5 qg rg qb6 kb5
              rintro e w8 ⟨r, rfl, o8, hB8⟩
              have O8 := Lib.hid o8
              have k8 := k6.next hB8
              have kb8 := kb6.next hB8
              have hBn := bgo hB7 hB8
              clear o8 hB8 k6 kb6 hB7 hB5 hB6
              cases hem : (seekF a b S n (c.set m (k : Int))).isEmpty
              · have hne : seekFAt a b S n c k ≠ [] := by rw [HX.out]; intro h; rw [h] at hem; cases hem
                obtain ⟨y, y1, y2⟩ := flatMap_first (N := 9 - n) (by have := HM8.out; have := HN.out; omega) HP.out hne
                rw [HX.out] at y1
                have E2 : Hid ((seekF a b S (n + 1) c).isEmpty = false ∧ firstI (seekF a b S (n + 1) c) = firstI (seekF a b S n (c.set m (k : Int)))) := by
                  refine ⟨?_, ?_⟩
                  · rw [E.out]
                    cases h : (List.range (9 - n)).flatMap (seekFAt a b S n c) with
                    | nil => rw [h] at y2; cases y2
                    | cons _ _ => rfl
                  · unfold firstI; rw [E.out, y1, y2]
                clear hem hne y1 y2
                go_wp2_with fail
                go_ret2
                exact ⟨r, by rw [E2.out.1]; rfl, by rw [E2.out.2]; exact O8.out.lower hz7, hBn⟩
              · have HX2 : Hid (seekFAt a b S n c k = []) := by show _ = _; rw [HX.out]; simpa using hem
                clear hem
                go_wp2_with fail
                go_round
                case rel => exact ⟨k + 1, by omega, by go_num, by show _ = _; rw [HNX.out, HX2.out], k8, kb8, hBn⟩
                case measure => simp [intOf]; omega
        · obtain rfl : k = m + 1 := by omega
          have E2 : Hid (seekF a b S (n + 1) c = []) := by show _ = _; rw [E.out, show 9 - n = m + 1 from by have := HM8.out; have := HN.out; omega]; exact HP.out
          go_wp2_with fail
          go_ret2
          exact ⟨_, by rw [E2.out]; rfl, by rw [E2.out]; exact IntsO.lower (IntsO.empty _ rfl) (by omega), bel⟩
end Go.Proofs.Ytciabhddppdioaa

/- Contracts: the spec's FailingCase; Entails. -/
namespace Go.Proofs.Ytciabhddppdioaa
open Go Go.RowKit Go.Proofs
attribute [local go_sem ↓] Go.wp_at_zero Go.wp_at_succ

def entF (a b : Asn) : Bool := a.valid && b.valid && !(failF a b).isSome
--@ spec.l6Fails
theorem termsL_star (a b : Asn) (t : Int) : t ∈ termsL (starA a b) ↔ t ∈ termsL a ∨ t ∈ termsL b := by
  simp only [termsL, starA, List.flatMap_append, List.mem_append]
  constructor
  · rintro ((h | h) | (h | h)) <;> simp [h]
  · rintro ((h | h) | (h | h)) <;> simp [h]
theorem seekF_fail {a b : Asn} (ha : a.valid = true) (hb : b.valid = true) : (!(seekF a b (tset (termsL (starA a b))) 8 opened).isEmpty) = (failF a b).isSome ∧ firstI (seekF a b (tset (termsL (starA a b))) 8 opened) = (failF a b).getD [] := by
  have e : seek a (tset (termsL (starA a b))) 8 opened = cases a (caseS a (tset (termsL b))) := by
    refine seek_caseS ha _ _ fun j h1 h2 => ?_
    rw [caseS_bit, tset_bit, tset_bit]
    have hj : ¬ j = 0 := by omega
    rw [decide_eq_false hj, Bool.or_false, ← Bool.decide_or, decide_eq_decide, termsL_star]
    constructor
    · rintro ⟨g, h | h⟩
      · exact Or.inl ⟨g, h⟩
      · exact Or.inr ⟨g, h⟩
    · rintro (⟨g, h⟩ | ⟨g, h⟩)
      · exact ⟨g, Or.inl h⟩
      · exact ⟨g, Or.inr h⟩
  unfold seekF firstI
  rw [e, ← failF_eq hb]
  cases (cases a (caseS a (tset (termsL b)))).filter fun d => !caseB a b d <;> exact ⟨rfl, rfl⟩
theorem termsL_star_ok {a b : Asn} (ha : a.valid = true) (hb : b.valid = true) : ∀ t ∈ termsL (starA a b), isTermB t = true := by
  intro t ht
  rcases (termsL_star a b t).1 ht with h | h
  · exact termsL_ok ha t h
  · exact termsL_ok hb t h
set_option maxRecDepth 100000 in
set_option maxHeartbeats 3200000 in
theorem c_spec_l6Fails {lo hi lo' hi' : Nat} (v v' : Value) (a b : Asn) (w : World) (h : AsnV w lo hi v a) (h' : AsnV w lo' hi' v' b) (ha : a.valid = true) (hb : b.valid = true) :
    Calls Try.prog 215 #[v, v'] w fun e w' => ∃ r, e = .returned (.tuple #[r, .bool (failF a b).isSome]) ∧ IntsO w' w.heap.size r ((failF a b).getD []) ∧ Below w.heap.size w w' := by
  have hV := Lib.hid h
  have hV' := Lib.hid h'
  have HA := Lib.hid ha
  have HB := Lib.hid hb
  have HT := Lib.hid (termsL_star_ok ha hb)
  have HS := Lib.hid (seekF_fail ha hb)
  have HOP := Lib.hid openedB
  have HLA := Lib.hid (valid_len ha)
  have HLB := Lib.hid (valid_len hb)
  obtain ⟨A1, c1, A2, c2, rfl, -, -⟩ := h
  obtain ⟨A3, c3, A4, c4, rfl, -, -⟩ := h'
  clear ha hb
  go_enter Try.func215, Try.ntmps215
  have k0 : Blk ((w.alloc (.cells #[.slice A1 a.facts.length c1, .slice A2 a.atoms.length c2] tAs)).alloc (.cells #[.slice A3 b.facts.length c3, .slice A4 b.atoms.length c4] tAs)) w.heap.size tAs #[.slice A1 a.facts.length c1, .slice A2 a.atoms.length c2] := blks
  have k1 : Blk ((w.alloc (.cells #[.slice A1 a.facts.length c1, .slice A2 a.atoms.length c2] tAs)).alloc (.cells #[.slice A3 b.facts.length c3, .slice A4 b.atoms.length c4] tAs)) (w.heap.size + 1) tAs #[.slice A3 b.facts.length c3, .slice A4 b.atoms.length c4] := blks
  go_wp2_with fail
  refine wp_region_noPanic ?_
  refine wp_region_held_drew (S := (fun w' => (∀ i, w'.cell? ⟨w.heap.size, i, none⟩ = #[.slice A1 a.facts.length c1, .slice A2 a.atoms.length c2][i]?) ∧ (∀ i, w'.cell? ⟨w.heap.size + 1, i, none⟩ = #[.slice A3 b.facts.length c3, .slice A4 b.atoms.length c4][i]?))) (by kernel_rfl) (⟨Blk.cell blks, Blk.cell blks⟩) (fun hHeld => ?_)
  refine wpAnyH_take (i := 0) (v := ?_) rfl (by kernel_rfl) (by kernel_rfl) (by kernel_rfl) (fun _ _ _ h => h) (Or.inl ⟨by rfl, fun w hSw => ?_⟩) hHeld ?_
  rotate_left
  · ((try dsimp only at hSw); go_split_ands; go_simp; (try with_reducible rfl))
  try simp only [Act.put, List.getElem_toArray, List.getElem_cons_zero, List.getElem_cons_succ, List.setIfInBounds_toArray, List.set_cons_zero, List.set_cons_succ]
  refine wpAnyH_take (i := 1) (v := ?_) rfl (by kernel_rfl) (by kernel_rfl) (by kernel_rfl) (fun _ _ _ h => h) (Or.inl ⟨by rfl, fun w hSw => ?_⟩) hHeld ?_
  rotate_left
  · ((try dsimp only at hSw); go_split_ands; go_simp; (try with_reducible rfl))
  try simp only [Act.put, List.getElem_toArray, List.getElem_cons_zero, List.getElem_cons_succ, List.setIfInBounds_toArray, List.set_cons_zero, List.set_cons_succ]
  refine wpAnyH_take (i := 2) (v := ?_) rfl (by kernel_rfl) (by kernel_rfl) (by kernel_rfl) (fun _ _ _ h => h) (Or.inl ⟨by rfl, fun w hSw => ?_⟩) hHeld ?_
  rotate_left
  · ((try dsimp only at hSw); go_split_ands; go_simp; (try with_reducible rfl))
  try simp only [Act.put, List.getElem_toArray, List.getElem_cons_zero, List.getElem_cons_succ, List.setIfInBounds_toArray, List.set_cons_zero, List.set_cons_succ]
  refine wpAnyH_take (i := 3) (v := ?_) rfl (by kernel_rfl) (by kernel_rfl) (by kernel_rfl) (fun _ _ _ h => h) (Or.inl ⟨by rfl, fun w hSw => ?_⟩) hHeld ?_
  rotate_left
  · ((try dsimp only at hSw); go_split_ands; go_simp; (try with_reducible rfl))
  try simp only [Act.put, List.getElem_toArray, List.getElem_cons_zero, List.getElem_cons_succ, List.setIfInBounds_toArray, List.set_cons_zero, List.set_cons_succ]
  refine wpAnyH_ready (rs := [4]) (by kernel_rfl) (by simp) ?_
  refine AllReadyH.cons rfl (fun K hK => ?_) AllReadyH.nil
  try simp only [List.getElem_toArray, List.getElem_cons_zero, List.getElem_cons_succ]
  (go_simp; refine (c_spec_l6Both _ _ a b _ (hV.out.below bel) (hV'.out.below bel) (by have := HLA.out; have := HLB.out; omega) (by have := HLA.out; have := HLB.out; omega) HT.out).mono ?_; rintro e w3 ⟨r3, rfl, o3, hB3⟩; obtain ⟨Tb, ct, rfl, fT⟩ := o3.reads; rw [flagsOf_length]; have hB := bgo (w := w) bel hB3; replace k0 := Blk.next (g := w.heap.size) blks hB3; replace k1 := Blk.next (g := w.heap.size + 1) blks hB3; clear o3)
  refine hK.out _ _ (⟨Blk.cell blks, Blk.cell blks⟩) (fun hHeldN => ?_)
  clear hHeld hK K
  have hHeld := hHeldN
  clear hHeldN
  try simp only [Act.put, List.getElem_toArray, List.getElem_cons_zero, List.getElem_cons_succ, List.setIfInBounds_toArray, List.set_cons_zero, List.set_cons_succ]
  refine wpAnyH_ready (rs := [5]) (by kernel_rfl) (by simp) ?_
  refine AllReadyH.cons rfl (fun K hK => ?_) AllReadyH.nil
  try simp only [List.getElem_toArray, List.getElem_cons_zero, List.getElem_cons_succ]
  (go_simp; refine (c_spec_l5Open _).mono ?_; rintro e w4 ⟨r4, rfl, o4, hB4⟩; obtain ⟨Cb, cc, rfl, fC⟩ := o4.reads; have hB2 := bgo (w := w) bel hB4; have fT4 := fT.below hB4; replace k0 := Blk.next (g := w.heap.size) blks hB4; replace k1 := Blk.next (g := w.heap.size + 1) blks hB4; clear o4)
  refine hK.out _ _ (⟨Blk.cell blks, Blk.cell blks⟩) (fun hHeldN => ?_)
  clear hHeld hK K
  have hHeld := hHeldN
  clear hHeldN
  try simp only [Act.put, List.getElem_toArray, List.getElem_cons_zero, List.getElem_cons_succ, List.setIfInBounds_toArray, List.set_cons_zero, List.set_cons_succ]
  refine wpAnyH_ready (rs := [6]) (by kernel_rfl) (by simp) ?_
  refine AllReadyH.cons rfl (fun K hK => ?_) AllReadyH.nil
  try simp only [List.getElem_toArray, List.getElem_cons_zero, List.getElem_cons_succ]
  (go_simp; refine (c_spec_l6Seek Tb ct HA.out HB.out 8 opened Cb cc _ _ _ (by omega) rfl (HOP.out.2 _) HOP.out.1 (hV.out.below bel) (hV'.out.below bel) (fT4.below bel) (fC.below bel)).mono ?_; rintro e w5 ⟨r5, rfl, o5, hB5⟩; have hz5 := hB2.size; have hB6 := bgo (w := w) bel hB5; replace k0 := Blk.next (g := w.heap.size) blks hB5; replace k1 := Blk.next (g := w.heap.size + 1) blks hB5)
  refine hK.out _ _ (⟨Blk.cell blks, Blk.cell blks⟩) (fun hHeldN => ?_)
  clear hHeld hK K
  have hHeld := hHeldN
  clear hHeldN
  try simp only [Act.put, List.getElem_toArray, List.getElem_cons_zero, List.getElem_cons_succ, List.setIfInBounds_toArray, List.set_cons_zero, List.set_cons_succ]
  refine wpAnyH_take (i := 7) (v := ?_) rfl (by kernel_rfl) (by kernel_rfl) (by kernel_rfl) (fun _ _ _ h => h) (Or.inl ⟨by rfl, fun w hSw => ?_⟩) hHeld ?_
  rotate_left
  · ((try dsimp only at hSw); go_split_ands; go_simp; (try with_reducible rfl))
  try simp only [Act.put, List.getElem_toArray, List.getElem_cons_zero, List.getElem_cons_succ, List.setIfInBounds_toArray, List.set_cons_zero, List.set_cons_succ]
  refine wpAnyH_take (i := 8) (v := ?_) rfl (by kernel_rfl) (by kernel_rfl) (by kernel_rfl) (fun _ _ _ h => h) (Or.inl ⟨by rfl, fun w hSw => ?_⟩) hHeld ?_
  rotate_left
  · ((try dsimp only at hSw); go_split_ands; go_simp; (try with_reducible rfl))
  try simp only [Act.put, List.getElem_toArray, List.getElem_cons_zero, List.getElem_cons_succ, List.setIfInBounds_toArray, List.set_cons_zero, List.set_cons_succ]
  refine wpAnyH_take (i := 9) (v := ?_) rfl (by kernel_rfl) (by kernel_rfl) (by kernel_rfl) (fun _ _ _ h => h) (Or.inl ⟨by rfl, fun w hSw => ?_⟩) hHeld ?_
  rotate_left
  · ((try dsimp only at hSw); go_split_ands; go_simp; (try with_reducible rfl))
  try simp only [Act.put, List.getElem_toArray, List.getElem_cons_zero, List.getElem_cons_succ, List.setIfInBounds_toArray, List.set_cons_zero, List.set_cons_succ]
  refine wpAnyH_take (i := 10) (v := ?_) rfl (by kernel_rfl) (by kernel_rfl) (by kernel_rfl) (fun _ _ _ h => h) (Or.inl ⟨by rfl, fun w hSw => ?_⟩) hHeld ?_
  rotate_left
  · ((try dsimp only at hSw); go_split_ands; go_simp; (try with_reducible rfl))
  try simp only [Act.put, List.getElem_toArray, List.getElem_cons_zero, List.getElem_cons_succ, List.setIfInBounds_toArray, List.set_cons_zero, List.set_cons_succ]
  refine wpAnyH_done (by kernel_rfl) ?_ _
  refine NoPanic.normal ?_
  have O5 := Lib.hid o5
  clear o5 fC fT fT4 hB5 hB4 hB3
  go_wp2_with fail
  go_ret2
  exact ⟨r5, by rw [← HS.out.1]; rfl, by rw [← HS.out.2]; exact O5.out.lower (by first | exact hz5 | (simp; exact hz5)), bel⟩

--@ spec.FailingCase
--@ spec.Entails
set_option maxRecDepth 100000 in
set_option maxHeartbeats 3200000 in
theorem c_spec_Entails {lo hi lo' hi' : Nat} (v v' : Value) (a b : Asn) (w : World) (h : AsnV w lo hi v a) (h' : AsnV w lo' hi' v' b) :
    Calls Try.prog 174 #[v, v'] w fun e w' => e = .returned (.bool (entF a b)) ∧ Below w.heap.size w w' := by
  have hV := Lib.hid h
  have hV' := Lib.hid h'
  obtain ⟨A1, c1, A2, c2, rfl, -, -⟩ := h
  obtain ⟨A3, c3, A4, c4, rfl, -, -⟩ := h'
  go_enter Try.func174, Try.ntmps174
  have k0 : Blk ((w.alloc (.cells #[.slice A1 a.facts.length c1, .slice A2 a.atoms.length c2] tAs)).alloc (.cells #[.slice A3 b.facts.length c3, .slice A4 b.atoms.length c4] tAs)) w.heap.size tAs #[.slice A1 a.facts.length c1, .slice A2 a.atoms.length c2] := blks
  have k1 : Blk ((w.alloc (.cells #[.slice A1 a.facts.length c1, .slice A2 a.atoms.length c2] tAs)).alloc (.cells #[.slice A3 b.facts.length c3, .slice A4 b.atoms.length c4] tAs)) (w.heap.size + 1) tAs #[.slice A3 b.facts.length c3, .slice A4 b.atoms.length c4] := blks
  go_wp2_with fail
  refine (c_spec_AssertionValid _ a _ (hV.out.below bel)).mono ?_
  rintro e w1 ⟨rfl, hB1⟩
  have hB : Below w.heap.size w w1 := bgo (w := w) bel hB1
  replace k0 := k0.next hB1
  replace k1 := k1.next hB1
  (replace qk0 := k0.cell; replace rk0 := k0.frozen; replace lk0 := k0.lt; replace qk1 := k1.cell; replace rk1 := k1.frozen; replace lk1 := k1.lt)
  clear hB1
  cases ha : a.valid
  · have E : Hid (entF a b = false) := by show _ = _; simp [entF, ha]
    clear ha
    go_wp2_with fail
    go_ret
    exact ⟨ret_bool E.out.symm, hB⟩
  · have HA := Lib.hid ha
    clear ha
    go_wp2_with fail
    refine (c_spec_AssertionValid _ b _ (hV'.out.below hB)).mono ?_
    rintro e w2 ⟨rfl, hB2⟩
    replace hB := bgo hB hB2
    replace k0 := k0.next hB2
    replace k1 := k1.next hB2
    (replace qk0 := k0.cell; replace rk0 := k0.frozen; replace lk0 := k0.lt; replace qk1 := k1.cell; replace rk1 := k1.frozen; replace lk1 := k1.lt)
    clear hB2
    cases hb : b.valid
    · have E : Hid (entF a b = false) := by show _ = _; simp [entF, hb]
      clear hb
      go_wp2_with fail
      go_ret
      exact ⟨ret_bool E.out.symm, hB⟩
    · have HB := Lib.hid hb
      have E : Hid (entF a b = (failF a b).isNone) := by show _ = _; rw [entF, HA.out, hb]; cases failF a b <;> rfl
      clear hb
      go_wp2_with fail
      refine (c_spec_l6Fails _ _ a b _ (hV.out.below hB) (hV'.out.below hB) HA.out HB.out).mono ?_
      rintro e w3 ⟨r, rfl, -, hB3⟩
      replace hB := bgo hB hB3
      clear hB3 k0 k1 qk0 qk1 rk0 rk1 lk0 lk1
      go_wp2_with fail
      go_ret
      exact ⟨ret_bool E.out.symm, hB⟩

--@ impl.Entails
set_option maxRecDepth 100000 in
set_option maxHeartbeats 3200000 in
theorem c_impl_Entails {lo hi lo' hi' : Nat} (v v' : Value) (a b : Asn) (w : World) (h : AsnV w lo hi v a) (h' : AsnV w lo' hi' v' b) (hhi : hi ≤ w.heap.size) (hhi' : hi' ≤ w.heap.size) :
    Calls Try.prog 49 #[v, v'] w fun e w' => e = .returned (.bool (entF a b)) ∧ Below w.heap.size w w' := by
  have hV := Lib.hid h
  have hV' := Lib.hid h'
  obtain ⟨A1, c1, A2, c2, rfl, -, -⟩ := h
  obtain ⟨A3, c3, A4, c4, rfl, -, -⟩ := h'
  go_enter Try.func49, Try.ntmps49
  have k0 : Blk ((w.alloc (.cells #[.slice A1 a.facts.length c1, .slice A2 a.atoms.length c2] tAs)).alloc (.cells #[.slice A3 b.facts.length c3, .slice A4 b.atoms.length c4] tAs)) w.heap.size tAs #[.slice A1 a.facts.length c1, .slice A2 a.atoms.length c2] := blks
  have k1 : Blk ((w.alloc (.cells #[.slice A1 a.facts.length c1, .slice A2 a.atoms.length c2] tAs)).alloc (.cells #[.slice A3 b.facts.length c3, .slice A4 b.atoms.length c4] tAs)) (w.heap.size + 1) tAs #[.slice A3 b.facts.length c3, .slice A4 b.atoms.length c4] := blks
  go_wp2_with fail
  refine (c_impl_AssertionValid _ a _ (hV.out.below bel)).mono ?_
  rintro e w1 ⟨rfl, hB1⟩
  have hB : Below w.heap.size w w1 := bgo (w := w) bel hB1
  replace k0 := k0.next hB1
  replace k1 := k1.next hB1
  (replace qk0 := k0.cell; replace rk0 := k0.frozen; replace lk0 := k0.lt; replace qk1 := k1.cell; replace rk1 := k1.frozen; replace lk1 := k1.lt)
  clear hB1
  cases ha : a.valid
  · have E : Hid (entF a b = false) := by show _ = _; simp [entF, ha]
    clear ha
    go_wp2_with fail
    go_ret
    exact ⟨ret_bool E.out.symm, hB⟩
  · have HA := Lib.hid ha
    clear ha
    go_wp2_with fail
    refine (c_impl_AssertionValid _ b _ (hV'.out.below hB)).mono ?_
    rintro e w2 ⟨rfl, hB2⟩
    replace hB := bgo hB hB2
    replace k0 := k0.next hB2
    replace k1 := k1.next hB2
    (replace qk0 := k0.cell; replace rk0 := k0.frozen; replace lk0 := k0.lt; replace qk1 := k1.cell; replace rk1 := k1.frozen; replace lk1 := k1.lt)
    clear hB2
    cases hb : b.valid
    · have E : Hid (entF a b = false) := by show _ = _; simp [entF, hb]
      clear hb
      go_wp2_with fail
      go_ret
      exact ⟨ret_bool E.out.symm, hB⟩
    · have HB := Lib.hid hb
      have hz := hB.size
      have E : Hid (entF a b = (failF a b).isNone) := by show _ = _; rw [entF, HA.out, hb]; cases failF a b <;> rfl
      clear hb
      go_wp2_with fail
      refine (c_impl_failingCase _ _ a b _ (hV.out.below hB) (hV'.out.below hB) (by omega) (by omega) HA.out HB.out).mono ?_
      rintro e w3 ⟨rfl, hB3⟩
      replace hB := bgo hB hB3
      clear hB3 k0 k1 qk0 qk1 rk0 rk1 lk0 lk1
      go_wp2_with fail
      go_ret
      exact ⟨ret_bool E.out.symm, bel⟩
end Go.Proofs.Ytciabhddppdioaa

/- An assertion entails its tidied form, and the tidied form has no further terms. Plain; no program. -/
namespace Go.Proofs.Ytciabhddppdioaa
open Go Go.RowKit

/-! the filled atoms stay the same -/
theorem fill_sub {c : List Int} {x t : Int} (e : cl c x = cl c t) (z : Atm) : Atm.fill c (z.sub x t) = Atm.fill c z := by
  unfold Atm.fill Atm.sub
  simp only [swp_val (M := cl c) e]
theorem cls_sub {c : List Int} {x t : Int} (e : cl c x = cl c t) (z : Atm) : Atm.cls c (z.sub x t) = Atm.cls c z := by
  unfold Atm.cls Atm.sub
  simp only [swp_val (M := cl c) e]
theorem filledL_sub {c : List Int} {x t : Int} (e : cl c x = cl c t) (xs : List Atm) : filledL (xs.map (Atm.sub x t)) c = filledL xs c := by
  unfold filledL
  rw [List.filter_map, List.map_map, List.filter_congr (q := Atm.fill c) fun z _ => by simp [fill_sub e]]
  apply List.map_congr_left
  intro z _
  exact cls_sub e z
theorem filledL_nfA (c : List Int) (xs : List Atm) : filledL (xs.filter nfA) c = filledL xs c := by
  unfold filledL
  rw [List.filter_filter]
  congr 1
  apply List.filter_congr
  intro x _
  unfold Atm.fill nfA
  by_cases h : x.kind = 1
  · simp [h]
  · by_cases hk : x.kind = 2
    · by_cases e : x.a = x.b
      · simp [e, hk]
      · simp [e, hk]
    · simp [hk, h]
theorem filledL_subAll {K : Nat} {c : List Int} : ∀ (n : Nat) (a : Asn), (left K a).length ≤ n → Sat (cl c) a → filledL (subAll K a).atoms c = filledL a.atoms c := by
  intro n
  induction n with
  | zero =>
    intro a hn hv
    cases h : subStep K a.facts with
    | none => rw [subAll_none h]
    | some p => obtain ⟨x, t⟩ := p; have := left_lt h; omega
  | succ n ih =>
    intro a hn hv
    cases h : subStep K a.facts with
    | none => rw [subAll_none h]
    | some p =>
      obtain ⟨x, t⟩ := p
      rw [subAll_some h]
      have e : cl c x = cl c t := by
        obtain ⟨f, hf, hs⟩ := List.exists_of_findSome?_eq_some h
        have h1 := hv.facts f hf
        rw [subOf_fact hs, decide_eq_true_eq] at h1
        rcases (subOf_spec hs).2.2 with ⟨e1, e2⟩ | ⟨e1, e2⟩ <;> rw [e1, e2]
        · exact h1
        · exact h1.symm
      rw [ih _ (by have := left_lt h; omega) (hv.subst e)]
      exact filledL_sub e a.atoms
theorem filledL_tidy {K : Nat} {c : List Int} {a : Asn} (h : Sat (cl c) a) : filledL (tidyF K a).atoms c = filledL a.atoms c := by
  rw [← filledL_subAll (K := K) _ a (Nat.le_refl _) h]
  exact filledL_nfA c _

/-! separated atoms describe themselves -/
theorem findU_at {L : List Atm} (h : (L.map fun x => x.a).Nodup) {i : Nat} (hi : i < L.length) {used : List Bool} (hu : used[i]? = some false) : findU L used (L[i]).a = some i := by
  unfold findU
  refine range_find_some hi ?_ fun j hj => ?_
  · unfold freeAt
    rw [hu, List.getElem?_eq_getElem hi]
    simp
  · unfold freeAt
    rw [List.getElem?_eq_getElem (show j < L.length by omega)]
    have hne : (L[j]'(by omega)).a ≠ (L[i]).a := by
      intro e
      have h1 := List.pairwise_iff_getElem.1 h j i (by rw [List.length_map]; omega) (by rw [List.length_map]; exact hi) hj
      rw [List.getElem_map, List.getElem_map] at h1
      exact h1 e
    simp [hne]
theorem useOne_at {L : List Atm} (h : (L.map fun x => x.a).Nodup) {i : Nat} (hi : i < L.length) {used : List Bool} (hu : used[i]? = some false) : useOne L used L[i] = some (used.set i true) := by
  unfold useOne
  split
  · rw [findU_at h hi hu]
    simp [List.getElem?_eq_getElem hi]
  · unfold chainF
    rw [findU_at h hi hu]
    simp [List.getElem?_eq_getElem hi]
def firstU (n i : Nat) : List Bool := List.replicate i true ++ List.replicate (n - i) false
theorem firstU_set {n i : Nat} (hi : i < n) : (firstU n i).set i true = firstU n (i + 1) := by
  unfold firstU
  rw [List.set_append_right _ _ (by simp), List.length_replicate, Nat.sub_self, show n - i = (n - (i + 1)) + 1 from by omega, List.replicate_succ, List.set_cons_zero, List.replicate_succ', List.append_assoc]
  rfl
theorem match_drop {L : List Atm} (h : (L.map fun x => x.a).Nodup) : ∀ (k i : Nat), k + i = L.length → matchF L (firstU L.length i) (L.drop i) = some (firstU L.length L.length) := by
  intro k
  induction k with
  | zero =>
    intro i hi
    obtain rfl : i = L.length := by omega
    rw [List.drop_length]; rfl
  | succ k ih =>
    intro i hi
    rw [List.drop_eq_getElem_cons (show i < L.length by omega)]
    unfold matchF
    rw [useOne_at h (by omega) (by unfold firstU; rw [List.getElem?_append_right (by simp), List.length_replicate, Nat.sub_self, List.getElem?_replicate, if_pos (by omega)])]
    rw [Option.bind_some, firstU_set (by omega)]
    exact ih _ (by omega)
theorem matchB_self {L : List Atm} (h : (L.map fun x => x.a).Nodup) : matchB L L = true := by
  unfold matchB
  have := match_drop h L.length 0 (by omega)
  rw [List.drop_zero] at this
  rw [show List.replicate L.length false = firstU L.length 0 from by simp [firstU], this]
  simp [firstU]
theorem Sat.nodup {c : List Int} {a : Asn} (h : Sat (cl c) a) : ((filledL a.atoms c).map fun x => x.a).Nodup := by
  have := h.apart
  unfold filledL
  rw [List.map_map]
  exact this
theorem tidy_ent {K : Nat} {a : Asn} {c : List Int} (h : Sat (cl c) a) : entB a (tidyF K a) c = true := by
  unfold entB
  rw [Bool.and_eq_true]
  constructor
  · rw [List.all_eq_true]
    intro f hf
    unfold Fct.fits
    rw [beq_iff_eq]
    exact (tidy_sat (K := K) h).facts f hf
  · rw [filledL_tidy h]
    exact matchB_self h.nodup
theorem tidy_entF {K : Nat} {a : Asn} (hv : a.valid = true) : entF a (tidyF K a) = true := by
  unfold entF
  rw [hv, tidy_valid hv]
  have : failF a (tidyF K a) = none := by
    unfold failF
    rw [List.find?_eq_none]
    intro c hc
    rw [tidy_ent (case_sat hv (caseS_zero _ _) hc)]
    simp
  rw [this]; rfl

/-! no further terms -/
theorem termsL_sub2 {K : Nat} {a : Asn} {x t : Int} (h : subStep K a.facts = some (x, t)) {n : Int} (hn : n ∈ termsL (substA x t a)) : n ∈ termsL a := by
  obtain ⟨f, hf, hs⟩ := List.exists_of_findSome?_eq_some h
  have hm := termsL_facts hf
  rcases termsL_subst hn with ⟨h1, _⟩ | ⟨h1, _⟩
  · exact h1
  · rcases (subOf_spec hs).2.2 with ⟨_, e⟩ | ⟨_, e⟩ <;> rw [h1, e]
    · exact hm.2
    · exact hm.1
theorem termsL_subAll {K : Nat} : ∀ (n : Nat) (a : Asn), (left K a).length ≤ n → ∀ s ∈ termsL (subAll K a), s ∈ termsL a := by
  intro n
  induction n with
  | zero =>
    intro a hn s hs
    cases h : subStep K a.facts with
    | none => rwa [subAll_none h] at hs
    | some p => obtain ⟨x, t⟩ := p; have := left_lt h; omega
  | succ n ih =>
    intro a hn s hs
    cases h : subStep K a.facts with
    | none => rwa [subAll_none h] at hs
    | some p =>
      obtain ⟨x, t⟩ := p
      rw [subAll_some h] at hs
      exact termsL_sub2 h (ih _ (by have := left_lt h; omega) s hs)
theorem termsL_less {a b : Asn} (hf : ∀ f ∈ b.facts, ∃ g ∈ a.facts, ∀ s ∈ factT f, s ∈ factT g) (hx : ∀ x ∈ b.atoms, x ∈ a.atoms) : ∀ s ∈ termsL b, s ∈ termsL a := by
  intro s hs
  simp only [termsL, List.mem_append, List.mem_flatMap] at hs ⊢
  rcases hs with ⟨f, h1, h2⟩ | ⟨x, h1, h2⟩
  · obtain ⟨g, h3, h4⟩ := hf f h1
    exact Or.inl ⟨g, h3, h4 s h2⟩
  · exact Or.inr ⟨x, hx x h1, h2⟩
theorem termsL_normal (a : Asn) : ∀ s ∈ termsL (normalF a), s ∈ termsL a := by
  refine termsL_less (fun g hg => ?_) (fun x hx => (List.mem_filter.1 hx).1)
  rcases nfold_mem _ _ _ hg with h1 | ⟨f, hf, rfl⟩
  · cases h1
  · refine ⟨f, hf, fun s hs => ?_⟩
    unfold nfF at hs
    split at hs
    · simp only [factT, List.mem_cons, List.not_mem_nil, or_false] at hs ⊢
      exact hs.symm
    · exact hs
theorem termsL_tidy {K : Nat} {a : Asn} : ∀ s ∈ termsL (tidyF K a), s ∈ termsL a := by
  intro s hs
  refine termsL_subAll (K := K) _ a (Nat.le_refl _) s ?_
  refine termsL_less ?_ ?_ s (termsL_normal _ s hs)
  · intro f hf
    exact ⟨f, (List.mem_filter.1 hf).1, fun _ h => h⟩
  · exact fun _ h => h
/-- the terms of a valid assertion in ascending order; none of another one -/
def atermsL (a : Asn) : List Int := if a.valid then ((List.range 9).filter fun n => (tset (termsL a)).testBit n).map fun n : Nat => (n : Int) else []
theorem atermsL_mem {a : Asn} (hv : a.valid = true) {s : Int} : s ∈ atermsL a ↔ ∃ n : Nat, n < 9 ∧ (tset (termsL a)).testBit n = true ∧ (n : Int) = s := by
  unfold atermsL
  rw [if_pos hv]
  simp [and_assoc]
theorem aterms_tidy {K : Nat} {a : Asn} (hv : a.valid = true) : ∀ s ∈ atermsL (tidyF K a), s ∈ [0] ++ atermsL a := by
  intro s hs
  rw [atermsL_mem (tidy_valid hv)] at hs
  obtain ⟨n, h1, h2, rfl⟩ := hs
  refine List.mem_append_right _ ((atermsL_mem hv).2 ⟨n, h1, ?_, rfl⟩)
  rw [tset_bit, decide_eq_true_eq] at h2 ⊢
  exact ⟨h2.1, termsL_tidy _ h2.2⟩
end Go.Proofs.Ytciabhddppdioaa

/- Contracts: the list of the terms of an assertion; the laws' search of a list. -/
namespace Go.Proofs.Ytciabhddppdioaa
open Go Go.RowKit Go.Proofs
attribute [local go_sem ↓] Go.wp_at_zero Go.wp_at_succ

--@ impl.AssertionTerms
--@ laws.slHas
set_option maxRecDepth 100000 in
set_option maxHeartbeats 1600000 in
theorem c_slHas {lo hi : Nat} (A : Option Addr) (c : Nat) (fs : List Int) (n : Int) (w : World) (h : IntsV w lo hi A fs) : Calls Try.prog 16 #[.slice A fs.length c, .int .i64 n] w fun e w' => e = .returned (.bool (decide (n ∈ fs))) ∧ Below w.heap.size w w' := by
  have H := Lib.hid h
  have HL := Lib.hid h.le
  clear h
  go_enter Try.func16, Try.ntmps16
  go_wp2_with fail
  go_loopw [5] (fun i wr => ∃ k : Nat, k ≤ fs.length ∧ i = .int .i64 k ∧ Hid (decide (n ∈ fs) = decide (n ∈ fs.drop k)) ∧ Hid (Below w.heap.size w wr)) (fun i _ => fs.length - (intOf i).toNat)
  case atStart => exact ⟨0, Nat.zero_le _, rfl, by show _ = _; simp, Below.refl _ _⟩
  case round =>
    obtain ⟨k, hk, rfl, HA, HB⟩ := hrel
    have hl := HL.out
    by_cases hlt : k < fs.length
    · obtain ⟨b, off, rfl, g0⟩ := (H.out.below HB.out).at hlt
      have HD : Hid (decide (n ∈ fs.drop k) = (decide (fs[k] = n) || decide (n ∈ fs.drop (k + 1)))) := by
        show _ = _
        rw [List.drop_eq_getElem_cons hlt, ← Bool.decide_or, decide_eq_decide, List.mem_cons]
        constructor
        · rintro (h | h)
          · exact Or.inl h.symm
          · exact Or.inr h
        · rintro (h | h)
          · exact Or.inl h.symm
          · exact Or.inr h
      have hki : (k : Int) < (fs.length : Int) := by omega
      obtain ⟨f, hf⟩ : ∃ f, f = fs[k] := ⟨_, rfl⟩
      rw [← hf] at g0 HD
      clear hf
      by_cases f1 : f = n
      · have E : Hid (decide (f = n) = true) := by show _ = _; rw [decide_eq_true_eq]; exact f1
        rw [f1] at g0
        clear f1
        go_wp2_with fail
        go_ret
        exact ⟨ret_bool (by rw [HA.out, HD.out, E.out]; rfl), HB.out⟩
      · have E : Hid (decide (f = n) = false) := by show _ = _; rw [decide_eq_false_iff_not]; exact f1
        have e1 : (f == n) = false := by simpa using f1
        clear f1
        go_wp2_with fail
        go_round
        case rel => exact ⟨k + 1, by omega, by go_num, by show _ = _; rw [HA.out, HD.out, E.out]; rfl, HB.out⟩
        case measure => simp [intOf]; omega
    · obtain rfl : k = fs.length := by omega
      have E : Hid (decide (n ∈ fs) = false) := by show _ = _; rw [HA.out, List.drop_length]; simp
      go_wp2_with fail
      go_ret
      exact ⟨ret_bool E.out.symm, HB.out⟩
end Go.Proofs.Ytciabhddppdioaa

/- 'laws.FnLogicalTerms' returns true for all bytes that can be read. -/
namespace Go.Proofs.Ytciabhddppdioaa
open Go Go.RowKit Go.Proofs
attribute [local go_sem ↓] Go.wp_at_zero Go.wp_at_succ

--@ laws.FnLogicalTerms
theorem one_reads {w : World} {lo hi b o k : Nat} {L : Cms} (h : CmsAt w lo hi L b o) (h1 : lo ≤ b) (h2 : b < hi) : CmsV w lo hi (some ⟨b, o + k * 10, none⟩) (L.one k) :=
  fun _ => ⟨b, o + k * 10, rfl, h1, h2, h.one k⟩
theorem c_LogOne {lo hi b o k : Nat} (L : Cms) (c : Nat) (w : World) (h : CmsAt w lo hi L b o) (h1 : lo ≤ b) (h2 : b < hi) (hhi : hi ≤ w.heap.size) (hk : k < L.len) (hL : L.len + L.cost ≤ 1000) :
    Calls Try.prog 13 #[.slice (some ⟨b, o + k * 10, none⟩) 1 c] w fun e w' => ∃ r, e = .returned r ∧ IntsO w' w.heap.size r (logicalL (L.one k)) ∧ Below w.heap.size w w' := by
  have hc := Cms.one_cost L k
  have := c_impl_LogicalTerms (L.one k) (some ⟨b, o + k * 10, none⟩) c w (one_reads h h1 h2) hhi (by omega) (Cms.cost_small (by omega))
  rwa [Cms.one_len hk] at this
set_option maxRecDepth 100000 in
set_option maxHeartbeats 6400000 in
theorem c_FnLogicalTerms (v : Value) (A : Option Addr × Nat × Nat) (w : World) (h : v = .slice A.1 A.2.1 A.2.2 ∧ BytesR w A.1 A.2.1 A.2.2) : Calls Try.prog 3 #[v] w fun e w' => e = .returned (.bool true) ∧ Below w.heap.size w w' := by
  obtain ⟨A, n, c⟩ := A
  obtain ⟨rfl, hR⟩ := h
  simp only at hR ⊢
  have HR := Lib.hid hR
  clear hR
  by_cases hn : 1048576 < n
  · have hni : (1048576 : Int) < (n : Int) := by omega
    clear hn
    go_enter Try.func3, Try.ntmps3
    go_wp2_with fail
    go_ret
    exact ⟨rfl, bel⟩
  have hni : ¬ (1048576 : Int) < (n : Int) := by omega
  clear hn
  go_enter Try.func3, Try.ntmps3
  go_wp2_with fail
  refine (c_DrawLogical A n c _ HR.out).mono ?_
  rintro e w1 ⟨A1, d1, L, rfl, hV, hLS, hB1, hcap⟩
  have HB1 := Lib.hid hB1
  have HV := Lib.hid hV
  have z1 := hB1.size
  have hlen : L.len ≤ 1000 := by omega
  have HS := Lib.hid hLS
  have Hsm := Lib.hid (Cms.cost_small (n := 1049600) (L := L) (by omega))
  have Hsz := Lib.hid (show L.sz ≤ 1049600 from Nat.le_trans (Cms.sz_cost L) (by omega))
  clear hV hB1 hLS hni HR
  go_wp2_with fail
  refine (c_impl_LogicalTerms L A1 d1 w1 HV.out (Nat.le_refl _) (by omega) Hsm.out).mono ?_
  rintro e w2 ⟨r2, rfl, o2, hB2⟩
  obtain ⟨G2, e2, rfl, hG2⟩ := o2.reads
  have z2 := hB2.size
  have HB2 := Lib.hid (bgo HB1.out hB2)
  have HV2 := Lib.hid (HV.out.below hB2)
  have HG2 := Lib.hid hG2
  clear o2 hG2 hB2
  go_wp2_with fail
  refine (c_spec_LogicalTerms L A1 d1 w2 HV2.out z2 (by omega) Hsm.out Hsz.out).mono ?_
  rintro e w3 ⟨r3, rfl, o3, hB3⟩
  obtain ⟨G3, e3, rfl, hG3⟩ := o3.reads
  have z3 := hB3.size
  have HB3 := Lib.hid (bgo HB2.out hB3)
  have HV3 := Lib.hid (HV2.out.below hB3)
  have HG23 := Lib.hid (HG2.out.below hB3)
  have HG3 := Lib.hid hG3
  clear o3 hG3 hB3 HB2 HV2 HG2 HV HB1
  go_wp2_with fail
  refine (c_slInts G2 G3 e2 e3 (logicalL L) (logicalL L) _ HG23.out HG3.out).mono ?_
  rintro e w4 ⟨rfl, hB4⟩
  rw [decide_eq_true (Eq.refl (logicalL L))]
  have z4 := hB4.size
  have HB4 := Lib.hid (bgo HB3.out hB4)
  have HV4 := Lib.hid (HV3.out.below hB4)
  have HG4 := Lib.hid (HG23.out.below hB4)
  clear hB4 HB3 HV3 HG23 HG3
  obtain ⟨D, hD⟩ : ∃ D, D = logicalL L := ⟨_, rfl⟩
  rw [← hD] at HG4 ⊢
  replace hD := Lib.hid hD
  go_wp2_with fail
  go_loopw [5, 6, 7] (fun t s i wr => ∃ k : Nat, k ≤ 9 ∧ t = .int .i64 k ∧ Hid (Below w4.heap.size w4 wr)) (fun t _ _ _ => 9 - (intOf t).toNat)
  case atStart => exact ⟨0, by omega, rfl, Below.refl _ _⟩
  case round =>
    obtain ⟨k, hk, rfl, HB⟩ := hrel
    by_cases h9 : k < 9
    · have hki : (k : Int) ≤ 8 := by omega
      go_wp2_with fail
      go_loopw [6, 7] (fun s i wx => ∃ j : Nat, j ≤ L.len ∧ i = .int .i64 j ∧ s = .bool (anyOne L k j) ∧ Hid (Below w4.heap.size w4 wx)) (fun _ i _ => L.len - (intOf i).toNat)
      case atStart => exact ⟨0, by omega, rfl, rfl, HB⟩
      case round =>
        clear HB
        obtain ⟨j, hj, rfl, rfl, HB⟩ := hrel
        have hz := HB.out.size
        by_cases hjl : j < L.len
        · obtain ⟨b, o, rfl, hb1, hb2, hA⟩ := HV4.out (by omega)
          have HA := Lib.hid (hA.below HB.out)
          have hji : (j : Int) < (L.len : Int) := by omega
          have hjc : (j : Int) + 1 ≤ (d1 : Int) := by omega
          have hs : Hid (anyOne L k (j + 1) = (anyOne L k j || decide ((k : Int) ∈ logicalL (L.one j)))) := Lib.hid rfl
          clear hA
          cases hq : anyOne L k j
          · rw [hq] at hs
            clear hq
            go_wp2_with fail
            refine (c_LogOne L (d1 - j) wr HA.out hb1 hb2 (by omega) hjl HS.out).mono ?_
            rintro e w6 ⟨r6, rfl, o6, hB6⟩
            obtain ⟨G6, e6, rfl, hG6⟩ := o6.reads
            have HG6 := Lib.hid hG6
            have HB6 := Lib.hid (bgo HB.out hB6)
            clear o6 hG6 hB6
            go_wp2_with fail
            refine (c_slHas G6 e6 _ _ _ HG6.out).mono ?_
            rintro e w7 ⟨rfl, hB7⟩
            have HB7 := Lib.hid (bgo HB6.out hB7)
            clear hB7
            go_wp2_with fail
            go_round
            case rel => exact ⟨j + 1, by omega, by go_num, by rw [hs.out]; rfl, HB7⟩
            case measure => simp [intOf]; omega
          · rw [hq] at hs
            clear hq
            go_wp2_with fail
            go_round
            case rel => exact ⟨j + 1, by omega, by go_num, by rw [hs.out]; rfl, HB⟩
            case measure => simp [intOf]; omega
        · obtain rfl : j = L.len := by omega
          go_wp2_with fail
          refine (c_impl_ProgramValid L A1 d1 wr (HV4.out.below HB.out) (by omega) Hsm.out).mono ?_
          rintro e w8 ⟨rfl, hB8⟩
          have HB8 := Lib.hid (bgo HB.out hB8)
          clear hB8 HB
          have hbig : Hid ((k : Int) ∈ D → 4 < k) := Lib.hid (by rw [hD.out]; exact log_big)
          cases hp : L.prog
          · have hno : decide ((k : Int) ∈ D) = false := by rw [hD.out, log_none hp]; simp
            clear hp
            go_wp2_with fail
            refine (c_slHas G2 e2 D _ _ (HG4.out.below HB8.out)).mono ?_
            rintro e w9 ⟨rfl, hB9⟩
            rw [hno]
            have HB9 := Lib.hid (bgo HB8.out hB9)
            clear hB9
            go_wp2_with fail
            go_round
            case rel => exact ⟨k + 1, by omega, by go_num, HB9⟩
            case measure => simp [intOf]; omega
          · have hsame := Lib.hid (log_any (n := k) hp (by omega))
            rw [← hD.out] at hsame
            clear hp
            go_wp2_with fail
            refine (c_slHas G2 e2 D _ _ (HG4.out.below HB8.out)).mono ?_
            rintro e w9 ⟨rfl, hB9⟩
            have HB9 := Lib.hid (bgo HB8.out hB9)
            clear hB9
            rw [hsame.out]
            cases hd : decide ((k : Int) ∈ D)
            · go_wp2_with fail
              refine (c_slHas G2 e2 D _ _ (HG4.out.below HB9.out)).mono ?_
              rintro e w10 ⟨rfl, hB10⟩
              rw [hd]
              have HB10 := Lib.hid (bgo HB9.out hB10)
              clear hB10 hd
              go_wp2_with fail
              go_round
              case rel => exact ⟨k + 1, by omega, by go_num, HB10⟩
              case measure => simp [intOf]; omega
            · have h4 : ¬ (k : Int) ≤ 4 := by have := hbig.out (of_decide_eq_true hd); omega
              go_wp2_with fail
              refine (c_slHas G2 e2 D _ _ (HG4.out.below HB9.out)).mono ?_
              rintro e w10 ⟨rfl, hB10⟩
              rw [hd]
              have HB10 := Lib.hid (bgo HB9.out hB10)
              clear hB10 hd
              go_wp2_with fail
              go_round
              case rel => exact ⟨k + 1, by omega, by go_num, HB10⟩
              case measure => simp [intOf]; omega
    · obtain rfl : k = 9 := by omega
      go_wp2_with fail
      go_ret
      exact ⟨rfl, bgo HB4.out HB.out⟩
--@
end Go.Proofs.Ytciabhddppdioaa
