/- 'laws.FnHoldsPart' returns true for all bytes that can be read. -/
import Derived.Test.YtdhllcejahdjfaaDrawY
import Derived.Test.YtdhllcejahdjfaaCellsD
import Derived.Test.YtdhllcejahdjfaaHolds
import Derived.Test.YtdhllcejahdjfaaSlInts
import Derived.Deep.RegionHeld3
set_option linter.unusedSimpArgs false
set_option linter.unusedVariables false
namespace Go.Proofs.Ytdhllcejahdjfaa
open Go Go.RowKit Go.Proofs
attribute [local go_sem ↓] Go.wp_at_zero Go.wp_at_succ

--@ laws.FnHoldsPart
theorem StateO.tight {w : World} {b : Nat} {v : Value} {s : Ste} (h : StateO w b v s) : StateV w 0 w.heap.size v s := by
  obtain ⟨fv, av, rfl, h1, h2, -⟩ := h
  obtain ⟨A, c, rfl, r1⟩ := h1.reads
  obtain ⟨B, d, rfl, r2⟩ := h2.reads
  exact ⟨A, c, B, d, rfl, r1.mono (Nat.zero_le _) (Nat.le_refl _), r2.mono (Nat.zero_le _) (Nat.le_refl _)⟩
theorem AsnO.tightH {w : World} {b : Nat} {v : Value} {a : Asn} (h : AsnO w b v a) : AsnV w 0 w.heap.size v a := (AsnO.reads h).mono (Nat.zero_le _) (Nat.le_refl _)
theorem c_slIntsT {lo hi lo' hi' : Nat} (A A' : Option Addr) (c c' : Nat) (fs : List Int) (w : World) (h : IntsV w lo hi A fs) (h' : IntsV w lo' hi' A' fs) : Calls Try.prog 24 #[.slice A fs.length c, .slice A' fs.length c'] w fun e w' => e = .returned (.bool true) ∧ Below w.heap.size w w' := by
  have := c_slInts A A' c c' fs fs w h h'
  rwa [decide_eq_true (Eq.refl fs)] at this
theorem hp_some {s : Ste} {a : Asn} {out : List Int} (h : partOf s a = some out) : (holdsPart s a).isSome = true ∧ (holdsPart s a).getD [] = cellsL (bitsOf out) 8 := by
  unfold holdsPart; rw [h]; exact ⟨rfl, rfl⟩
theorem hp_none {s : Ste} {a : Asn} (h : partOf s a = none) : (holdsPart s a).isSome = false ∧ (holdsPart s a).getD [] = [] := by
  unfold holdsPart; rw [h]; exact ⟨rfl, rfl⟩
set_option maxRecDepth 100000 in
set_option maxHeartbeats 6400000 in
theorem c_FnHoldsPart (v : Value) (A : Option Addr × Nat × Nat) (w : World) (h : v = .slice A.1 A.2.1 A.2.2 ∧ BytesR w A.1 A.2.1 A.2.2) : Calls Try.prog 5 #[v] w fun e w' => e = .returned (.bool true) ∧ Below w.heap.size w w' := by
  obtain ⟨A, n, c⟩ := A
  obtain ⟨rfl, hR⟩ := h
  simp only at hR ⊢
  have HR := Lib.hid hR
  clear hR
  by_cases hn : 1048576 < n
  · have hni : (1048576 : Int) < (n : Int) := by omega
    clear hn
    go_enter Try.func5, Try.ntmps5
    go_wp2_with fail
    go_ret
    exact ⟨rfl, (by repeat (first | (with_reducible exact Below.refl _ _) | (with_reducible assumption) | (with_reducible apply bbox) | ((with_reducible apply Below.setCell); (case hp => (first | exact Nat.le_refl _ | (simp; done) | (simp; omega) | (simp only; omega) | omega))) | (with_reducible apply Below.drew) | (with_reducible apply below_drewN)))⟩
  have hni : ¬ (1048576 : Int) < (n : Int) := by omega
  clear hn
  go_enter Try.func5, Try.ntmps5
  go_wp2_with fail
  refine (c_DrawHoldsPart A n c _ HR.out).mono ?_
  rintro e w1 ⟨r1, r2, s, a, rfl, os, oa, hB1⟩
  have HB1 := Lib.hid hB1
  have hsv := os.tight
  have hav := oa.tightH
  obtain ⟨SA, sc, SB, sd, rfl, -, -⟩ := id hsv
  obtain ⟨F, e1, G, e2, rfl, -, -⟩ := id hav
  have HSV := Lib.hid hsv
  have HAV := Lib.hid hav
  clear hB1 os oa hsv hav hni
  obtain ⟨ks, ka⟩ := blk2 w1 tSt 26 #[.slice SA s.values.length sc, .slice SB s.heap.length sd] #[.slice F a.facts.length e1, .slice G a.atoms.length e2]
  have hBx : Below w1.heap.size w1 ((w1.alloc (.cells #[.slice SA s.values.length sc, .slice SB s.heap.length sd] tSt)).alloc (.cells #[.slice F a.facts.length e1, .slice G a.atoms.length e2] 26)) := bbox (bbox (Below.refl _ _) _) _
  have HSV2 := Lib.hid (HSV.out.below hBx)
  have HAV2 := Lib.hid (HAV.out.below hBx)
  have HBw2 := Lib.hid (bgo HB1.out hBx)
  have lks := ks.lt
  have lka := ka.lt
  obtain ⟨b, hb⟩ : ∃ b, b = (holdsPart s a).isSome := ⟨_, rfl⟩
  obtain ⟨L, hL⟩ : ∃ L, L = (holdsPart s a).getD [] := ⟨_, rfl⟩
  have HBE := Lib.hid hb
  have HLE := Lib.hid hL
  have HI : Hid (∀ W : World, Below w1.heap.size w1 W → Calls Try.prog 22 #[.agg #[.slice SA s.values.length sc, .slice SB s.heap.length sd], .agg #[.slice F a.facts.length e1, .slice G a.atoms.length e2]] W fun e w' => ∃ r, e = .returned (.tuple #[r, .bool b]) ∧ IntsO w' W.heap.size r L ∧ Below W.heap.size W w') := fun W hW => by
    rw [hb, hL]; exact c_impl_HoldsPart _ _ s a W (HSV.out.below hW) (HAV.out.below hW)
  have HS : Hid (∀ W : World, Below w1.heap.size w1 W → Calls Try.prog 23 #[.agg #[.slice SA s.values.length sc, .slice SB s.heap.length sd], .agg #[.slice F a.facts.length e1, .slice G a.atoms.length e2]] W fun e w' => ∃ r, e = .returned (.tuple #[r, .bool b]) ∧ IntsO w' W.heap.size r L ∧ Below W.heap.size W w') := fun W hW => by
    rw [hb, hL]; exact c_spec_HoldsPart _ _ s a W (HSV.out.below hW) (HAV.out.below hW)
  have HBX := Lib.hid hBx
  clear hb hL hBx
  go_wp2_with fail
  generalize ((w1.alloc (.cells #[.slice SA s.values.length sc, .slice SB s.heap.length sd] tSt)).alloc (.cells #[.slice F a.facts.length e1, .slice G a.atoms.length e2] 26)) = W2 at ks ka HSV2 HAV2 HBw2 HBX lks lka ⊢
  refine (HI.out _ HBX.out).mono ?_
  rintro e w3 ⟨r3, rfl, o3, hB3⟩
  obtain ⟨A3, c3, rfl, f3⟩ := o3.reads
  have HL3 := Lib.hid f3
  have HB3 : Hid (Below w1.heap.size w1 w3) := bgo HBX.out hB3
  replace ks := ks.next hB3
  replace ka := ka.next hB3
  clear o3 f3 hB3 HSV2 HAV2 HBw2 HBX
  (replace qks := ks.cell; replace rks := ks.frozen; replace lks := ks.lt; replace qka := ka.cell; replace rka := ka.frozen; replace lka := ka.lt)
  go_wp2_with fail
  refine (HS.out _ HB3.out).mono ?_
  rintro e w4 ⟨r4, rfl, o4, hB4⟩
  obtain ⟨A4, c4, rfl, f4⟩ := o4.reads
  have HL4 := Lib.hid f4
  have HL34 := Lib.hid (HL3.out.below hB4)
  have HB4 : Hid (Below w1.heap.size w1 w4) := bgo HB3.out hB4
  replace ks := ks.next hB4
  replace ka := ka.next hB4
  clear o4 f4 hB4 HL3 HB3 HI HS
  (replace qks := ks.cell; replace rks := ks.frozen; replace lks := ks.lt; replace qka := ka.cell; replace rka := ka.frozen; replace lka := ka.lt)
  have hne : (b != b) = false := by cases b <;> rfl
  have heq : (b == b) = true := by cases b <;> rfl
  go_wp2_with fail
  refine (c_slIntsT A3 A4 c3 c4 L _ HL34.out HL4.out).mono ?_
  rintro e w5 ⟨rfl, hB5⟩
  have HB5 : Hid (Below w1.heap.size w1 w5) := bgo HB4.out hB5
  have HL35 := Lib.hid (HL34.out.below hB5)
  have HL45 := Lib.hid (HL4.out.below hB5)
  replace ks := ks.next hB5
  replace ka := ka.next hB5
  clear hB5 HL34 HL4 HB4
  (replace qks := ks.cell; replace rks := ks.frozen; replace lks := ks.lt; replace qka := ka.cell; replace rka := ka.frozen; replace lka := ka.lt)
  cases hp : partOf s a with
  | none =>
    obtain rfl : b = false := by rw [HBE.out]; exact (hp_none hp).1
    clear hp HBE HLE
    go_wp2_with fail
    refine (c_slIntsT A3 A4 c3 c4 L _ HL35.out HL45.out).mono ?_
    rintro e w6 ⟨rfl, hB6⟩
    go_wp2_with fail
    go_ret
    exact ⟨rfl, bgo HB1.out (bgo HB5.out hB6)⟩
  | some out =>
  obtain rfl : b = true := by rw [HBE.out]; exact (hp_some hp).1
  obtain rfl : L = cellsL (bitsOf out) 8 := by rw [HLE.out]; exact (hp_some hp).2
  have HP := Lib.hid hp
  have HSP := Lib.hid (partOf_spec hp)
  have HVAL := Lib.hid (partOf_some.1 hp).1
  have HLL := Lib.hid (cellsL_length (bitsOf out) 8)
  clear hp HBE HLE hne heq
  go_wp2_with fail
  obtain ⟨L, hL⟩ : ∃ L, L = cellsL (bitsOf out) 8 := ⟨_, rfl⟩
  have HM : Hid (∀ x, x ∈ L ↔ x ∈ out) := fun x => by rw [hL]; exact cells_mem (fun c hc => (HSP.out.2 c hc).1)
  have HND : Hid (L.Nodup) := by show L.Nodup; rw [hL]; exact cellsL_nodup _
  have HAL : Hid (∀ c ∈ L, allocB s.heap c = true) := fun c hc => (HSP.out.2 c ((HM.out c).1 hc)).2
  obtain ⟨own, hown⟩ : ∃ own, own = keepS s fun x => decide (x ∈ L) := ⟨_, rfl⟩
  have HOW : Hid (partOf own a = some out ∧ holdsF own a = true) := by
    show _ ∧ _
    rw [hown]
    exact ⟨keep_part HP.out (fun c hc => decide_eq_true ((HM.out c).2 hc)), keep_holds HP.out (fun c hc => decide_eq_true ((HM.out c).2 hc)) (fun c hc _ => (HM.out c).1 (of_decide_eq_true hc))⟩
  have HLE : Hid (holdsF s a = decide (L.length = (usedL s.heap 8).length)) := by show _ = _; rw [hL]; exact holds_len HP.out
  have HUF : Hid (usedF s = usedL s.heap 8) := by show _ = _; unfold usedF; rw [HVAL.out]; rfl
  have HLX := Lib.hid hL
  have HOX := Lib.hid hown
  rw [← hL] at HL35 HL45 HLL ⊢
  clear hL hown
  refine (c_impl_KeepCells _ s A3 c3 L _ (HSV.out.below HB5.out) HL35.out HVAL.out HAL.out HND.out).mono ?_
  rintro e w6 ⟨r6, rfl, o6, hB6⟩
  rw [← HOX.out] at o6
  have HB6 : Hid (Below w1.heap.size w1 w6) := bgo HB5.out hB6
  have HL36 := Lib.hid (HL35.out.below hB6)
  replace ks := ks.next hB6
  replace ka := ka.next hB6
  have l61 := ks.lt
  have hov := o6.tight
  obtain ⟨XA, xc, XB, xd, rfl, -, -⟩ := id hov
  have HXV := Lib.hid hov
  clear hB6 HL35 HL45 HB5 o6 hov
  have ko := Blk.new w6 tSt #[.slice XA own.values.length xc, .slice XB own.heap.length xd]
  have hBy : Below w6.heap.size w6 (w6.alloc (.cells #[.slice XA own.values.length xc, .slice XB own.heap.length xd] tSt)) := bbox (Below.refl _ _) _
  have HXV2 := Lib.hid (HXV.out.below hBy)
  have HL37 := Lib.hid (HL36.out.below hBy)
  have HB7 := Lib.hid (bgo HB6.out hBy)
  replace ks := ks.alloc (.cells #[.slice XA own.values.length xc, .slice XB own.heap.length xd] tSt)
  replace ka := ka.alloc (.cells #[.slice XA own.values.length xc, .slice XB own.heap.length xd] tSt)
  have lks7 := ks.lt
  have lka7 := ka.lt
  have lko7 := ko.lt
  have hne1 : w6.heap.size ≠ w1.heap.size := by omega
  clear hBy HL36 HXV HB6 qks rks lks qka rka lka
  (replace qka := ka.cell; replace rka := ka.frozen; replace lka := ka.lt; replace qks := ks.cell; replace rks := ks.frozen; replace lks := ks.lt; replace qko := ko.cell; replace rko := ko.frozen; replace lko := ko.lt)
  go_wp2_with fail
  generalize (w6.alloc (.cells #[.slice XA own.values.length xc, .slice XB own.heap.length xd] tSt)) = W6 at ks ka ko HXV2 HL37 HB7 lks7 lka7 lko7 qka rka lka qks rks lks qko rko lko ⊢
  refine (c_impl_HoldsPart _ _ own a _ HXV2.out (HAV.out.below HB7.out)).mono ?_
  rintro e w8 ⟨r8, rfl, o8, hB8⟩
  rw [(hp_some HOW.out.1).1]
  rw [(hp_some HOW.out.1).2, ← HLX.out] at o8
  obtain ⟨A8, c8, rfl, f8⟩ := o8.reads
  have HL8 := Lib.hid f8
  have HL38 := Lib.hid (HL37.out.below hB8)
  have HXV3 := Lib.hid (HXV2.out.below hB8)
  have HB8 := Lib.hid (bgo HB7.out hB8)
  replace ka := ka.next hB8
  replace ks := ks.next hB8
  replace ko := ko.next hB8
  clear o8 f8 hB8 HL37 HXV2 HB7 qka rka lka qks rks lks qko rko lko HP HSP HM HAL HND HOX HLX
  obtain ⟨U, hU⟩ : ∃ U, U = usedL s.heap 8 := ⟨_, rfl⟩
  rw [← hU] at HLE HUF
  clear hU
  cases hh : holdsF s a
  · have HHH := Lib.hid hh
    have hlen : ((L.length : Int) == (U.length : Int)) = false := by
      have h1 := HLE.out
      rw [hh] at h1
      have h2 := of_decide_eq_false h1.symm
      simp; omega
    clear hh
    (replace qka := ka.cell; replace rka := ka.frozen; replace lka := ka.lt; replace qks := ks.cell; replace rks := ks.frozen; replace lks := ks.lt; replace qko := ko.cell; replace rko := ko.frozen; replace lko := ko.lt)
    go_wp2_with fail
    refine wp_region_noPanic ?_
    refine wp_region_held_drew (S := (fun w' => (∀ i, w'.cell? ⟨w1.heap.size, i, none⟩ = #[.slice SA s.values.length sc, .slice SB s.heap.length sd][i]?) ∧ (∀ i, w'.cell? ⟨w1.heap.size + 1, i, none⟩ = #[.slice F a.facts.length e1, .slice G a.atoms.length e2][i]?) ∧ (∀ i, w'.cell? ⟨w6.heap.size, i, none⟩ = #[.slice XA own.values.length xc, .slice XB own.heap.length xd][i]?))) (by kernel_rfl) (⟨Blk.cell (by repeat (first | (with_reducible assumption) | (with_reducible exact Blk.new _ _ _) | ((with_reducible apply Blk.far); (case hp => (first | exact Nat.le_refl _ | (simp; done) | (simp; omega) | (simp only; omega) | omega))) | (with_reducible apply Blk.set_) | ((with_reducible refine Blk.newE ?_); (simp; done)) | (with_reducible apply Blk.alloc) | (with_reducible apply Blk.drew) | (with_reducible apply Blk.drewN))), Blk.cell (by repeat (first | (with_reducible assumption) | (with_reducible exact Blk.new _ _ _) | ((with_reducible apply Blk.far); (case hp => (first | exact Nat.le_refl _ | (simp; done) | (simp; omega) | (simp only; omega) | omega))) | (with_reducible apply Blk.set_) | ((with_reducible refine Blk.newE ?_); (simp; done)) | (with_reducible apply Blk.alloc) | (with_reducible apply Blk.drew) | (with_reducible apply Blk.drewN))), Blk.cell (by repeat (first | (with_reducible assumption) | (with_reducible exact Blk.new _ _ _) | ((with_reducible apply Blk.far); (case hp => (first | exact Nat.le_refl _ | (simp; done) | (simp; omega) | (simp only; omega) | omega))) | (with_reducible apply Blk.set_) | ((with_reducible refine Blk.newE ?_); (simp; done)) | (with_reducible apply Blk.alloc) | (with_reducible apply Blk.drew) | (with_reducible apply Blk.drewN)))⟩) (fun hHeld => ?_)
    refine wpAnyH_take (i := 0) (v := ?_) rfl (by kernel_rfl) (by kernel_rfl) (by kernel_rfl) (fun _ _ _ h => h) (Or.inl ⟨by rfl, fun w hSw => ?_⟩) hHeld ?_
    rotate_left
    · ((try dsimp only at hSw); go_split_ands; go_simp; (try with_reducible rfl))
    try simp only [Act.put, List.getElem_toArray, List.getElem_cons_zero, List.getElem_cons_succ, List.setIfInBounds_toArray, List.set_cons_zero, List.set_cons_succ]
    refine wpAnyH_take (i := 1) (v := ?_) rfl (by kernel_rfl) (by kernel_rfl) (by kernel_rfl) (fun _ _ _ h => h) (Or.inl ⟨by rfl, fun w hSw => ?_⟩) hHeld ?_
    rotate_left
    · ((try dsimp only at hSw); go_split_ands; go_simp; (try with_reducible rfl))
    try simp only [Act.put, List.getElem_toArray, List.getElem_cons_zero, List.getElem_cons_succ, List.setIfInBounds_toArray, List.set_cons_zero, List.set_cons_succ]
    refine wpAnyH_take (i := 2) (v := ?_) rfl (by kernel_rfl) (by kernel_rfl) (by kernel_rfl) (fun _ _ _ h => h) (Or.inl ⟨by rfl, fun w hSw => ?_⟩) hHeld ?_
    rotate_left
    · ((try dsimp only at hSw); go_split_ands; go_simp; (try with_reducible rfl))
    try simp only [Act.put, List.getElem_toArray, List.getElem_cons_zero, List.getElem_cons_succ, List.setIfInBounds_toArray, List.set_cons_zero, List.set_cons_succ]
    refine wpAnyH_take (i := 3) (v := ?_) rfl (by kernel_rfl) (by kernel_rfl) (by kernel_rfl) (fun _ _ _ h => h) (Or.inl ⟨by rfl, fun w hSw => ?_⟩) hHeld ?_
    rotate_left
    · ((try dsimp only at hSw); go_split_ands; go_simp; (try with_reducible rfl))
    try simp only [Act.put, List.getElem_toArray, List.getElem_cons_zero, List.getElem_cons_succ, List.setIfInBounds_toArray, List.set_cons_zero, List.set_cons_succ]
    refine wpAnyH_take (i := 4) (v := ?_) rfl (by kernel_rfl) (by kernel_rfl) (by kernel_rfl) (fun _ _ _ h => h) (Or.inl ⟨by rfl, fun w hSw => ?_⟩) hHeld ?_
    rotate_left
    · ((try dsimp only at hSw); go_split_ands; go_simp; (try with_reducible rfl))
    try simp only [Act.put, List.getElem_toArray, List.getElem_cons_zero, List.getElem_cons_succ, List.setIfInBounds_toArray, List.set_cons_zero, List.set_cons_succ]
    refine wpAnyH_take (i := 5) (v := ?_) rfl (by kernel_rfl) (by kernel_rfl) (by kernel_rfl) (fun _ _ _ h => h) (Or.inl ⟨by rfl, fun w hSw => ?_⟩) hHeld ?_
    rotate_left
    · ((try dsimp only at hSw); go_split_ands; go_simp; (try with_reducible rfl))
    try simp only [Act.put, List.getElem_toArray, List.getElem_cons_zero, List.getElem_cons_succ, List.setIfInBounds_toArray, List.set_cons_zero, List.set_cons_succ]
    refine wpAnyH_take (i := 6) (v := ?_) rfl (by kernel_rfl) (by kernel_rfl) (by kernel_rfl) (fun _ _ _ h => h) (Or.inl ⟨by rfl, fun w hSw => ?_⟩) hHeld ?_
    rotate_left
    · ((try dsimp only at hSw); go_split_ands; go_simp; (try with_reducible rfl))
    try simp only [Act.put, List.getElem_toArray, List.getElem_cons_zero, List.getElem_cons_succ, List.setIfInBounds_toArray, List.set_cons_zero, List.set_cons_succ]
    refine wpAnyH_ready (rs := [7]) (by kernel_rfl) (by simp) ?_
    refine AllReadyH.cons rfl (fun K hK => ?_) AllReadyH.nil
    try simp only [List.getElem_toArray, List.getElem_cons_zero, List.getElem_cons_succ]
    (go_simp; refine (c_slIntsT A8 A3 c8 c3 L _ (HL8.out.below (by repeat (first | (with_reducible exact Below.refl _ _) | (with_reducible assumption) | (with_reducible apply bbox) | ((with_reducible apply Below.setCell); (case hp => (first | exact Nat.le_refl _ | (simp; done) | (simp; omega) | (simp only; omega) | omega))) | (with_reducible apply Below.drew) | (with_reducible apply below_drewN)))) (HL38.out.below (by repeat (first | (with_reducible exact Below.refl _ _) | (with_reducible assumption) | (with_reducible apply bbox) | ((with_reducible apply Below.setCell); (case hp => (first | exact Nat.le_refl _ | (simp; done) | (simp; omega) | (simp only; omega) | omega))) | (with_reducible apply Below.drew) | (with_reducible apply below_drewN))))).mono ?_; rintro e w9 ⟨rfl, hB9⟩; have HB9 := Lib.hid (bgo (bgo HB8.out (Below.refl _ w8).drew) hB9); have HXV4 := Lib.hid ((HXV3.out.below (Below.refl _ w8).drew).below hB9); have ka9 := ka.drew.next hB9; have ks9 := ks.drew.next hB9; have ko9 := ko.drew.next hB9)
    refine hK.out _ _ (⟨ks9.cell, ka9.cell, ko9.cell⟩) (fun hHeldN => ?_)
    clear hHeld hK K
    have hHeld := hHeldN
    clear hHeldN
    try simp only [Act.put, List.getElem_toArray, List.getElem_cons_zero, List.getElem_cons_succ, List.setIfInBounds_toArray, List.set_cons_zero, List.set_cons_succ]
    refine wpAnyH_take (i := 8) (v := ?_) rfl (by kernel_rfl) (by kernel_rfl) (by kernel_rfl) (fun _ _ _ h => h) (Or.inl ⟨by rfl, fun w hSw => ?_⟩) hHeld ?_
    rotate_left
    · ((try dsimp only at hSw); go_split_ands; go_simp; (try with_reducible rfl))
    try simp only [Act.put, List.getElem_toArray, List.getElem_cons_zero, List.getElem_cons_succ, List.setIfInBounds_toArray, List.set_cons_zero, List.set_cons_succ]
    refine wpAnyH_take (i := 9) (v := ?_) rfl (by kernel_rfl) (by kernel_rfl) (by kernel_rfl) (fun _ _ _ h => h) (Or.inl ⟨by rfl, fun w hSw => ?_⟩) hHeld ?_
    rotate_left
    · ((try dsimp only at hSw); go_split_ands; go_simp; (try with_reducible rfl))
    try simp only [Act.put, List.getElem_toArray, List.getElem_cons_zero, List.getElem_cons_succ, List.setIfInBounds_toArray, List.set_cons_zero, List.set_cons_succ]
    refine wpAnyH_take (i := 10) (v := ?_) rfl (by kernel_rfl) (by kernel_rfl) (by kernel_rfl) (fun _ _ _ h => h) (Or.inl ⟨by rfl, fun w hSw => ?_⟩) hHeld ?_
    rotate_left
    · ((try dsimp only at hSw); go_split_ands; go_simp; (try with_reducible rfl))
    try simp only [Act.put, List.getElem_toArray, List.getElem_cons_zero, List.getElem_cons_succ, List.setIfInBounds_toArray, List.set_cons_zero, List.set_cons_succ]
    refine wpAnyH_take (i := 11) (v := ?_) rfl (by kernel_rfl) (by kernel_rfl) (by kernel_rfl) (fun _ _ _ h => h) (Or.inl ⟨by rfl, fun w hSw => ?_⟩) hHeld ?_
    rotate_left
    · ((try dsimp only at hSw); go_split_ands; go_simp; (try with_reducible rfl))
    try simp only [Act.put, List.getElem_toArray, List.getElem_cons_zero, List.getElem_cons_succ, List.setIfInBounds_toArray, List.set_cons_zero, List.set_cons_succ]
    refine wpAnyH_ready (rs := [12]) (by kernel_rfl) (by simp) ?_
    refine AllReadyH.cons rfl (fun K hK => ?_) AllReadyH.nil
    try simp only [List.getElem_toArray, List.getElem_cons_zero, List.getElem_cons_succ]
    (go_simp; refine (c_impl_Holds _ _ own a _ HXV4.out (HAV.out.below HB9.out)).mono ?_; rintro e w10 ⟨rfl, hB10⟩; rw [HOW.out.2]; have HB10 := Lib.hid (bgo HB9.out hB10); have ka10 := ka9.next hB10; have ks10 := ks9.next hB10; have ko10 := ko9.next hB10)
    refine hK.out _ _ (⟨ks10.cell, ka10.cell, ko10.cell⟩) (fun hHeldN => ?_)
    clear hHeld hK K
    have hHeld := hHeldN
    clear hHeldN
    try simp only [Act.put, List.getElem_toArray, List.getElem_cons_zero, List.getElem_cons_succ, List.setIfInBounds_toArray, List.set_cons_zero, List.set_cons_succ]
    refine wpAnyH_take (i := 13) (v := ?_) rfl (by kernel_rfl) (by kernel_rfl) (by kernel_rfl) (fun _ _ _ h => h) (Or.inl ⟨by rfl, fun w hSw => ?_⟩) hHeld ?_
    rotate_left
    · ((try dsimp only at hSw); go_split_ands; go_simp; (try with_reducible rfl))
    try simp only [Act.put, List.getElem_toArray, List.getElem_cons_zero, List.getElem_cons_succ, List.setIfInBounds_toArray, List.set_cons_zero, List.set_cons_succ]
    refine wpAnyH_take (i := 14) (v := ?_) rfl (by kernel_rfl) (by kernel_rfl) (by kernel_rfl) (fun _ _ _ h => h) (Or.inl ⟨by rfl, fun w hSw => ?_⟩) hHeld ?_
    rotate_left
    · ((try dsimp only at hSw); go_split_ands; go_simp; (try with_reducible rfl))
    try simp only [Act.put, List.getElem_toArray, List.getElem_cons_zero, List.getElem_cons_succ, List.setIfInBounds_toArray, List.set_cons_zero, List.set_cons_succ]
    refine wpAnyH_take (i := 15) (v := ?_) rfl (by kernel_rfl) (by kernel_rfl) (by kernel_rfl) (fun _ _ _ h => h) (Or.inl ⟨by rfl, fun w hSw => ?_⟩) hHeld ?_
    rotate_left
    · ((try dsimp only at hSw); go_split_ands; go_simp; (try with_reducible rfl))
    try simp only [Act.put, List.getElem_toArray, List.getElem_cons_zero, List.getElem_cons_succ, List.setIfInBounds_toArray, List.set_cons_zero, List.set_cons_succ]
    refine wpAnyH_take (i := 16) (v := ?_) rfl (by kernel_rfl) (by kernel_rfl) (by kernel_rfl) (fun _ _ _ h => h) (Or.inl ⟨by rfl, fun w hSw => ?_⟩) hHeld ?_
    rotate_left
    · ((try dsimp only at hSw); go_split_ands; go_simp; (try with_reducible rfl))
    try simp only [Act.put, List.getElem_toArray, List.getElem_cons_zero, List.getElem_cons_succ, List.setIfInBounds_toArray, List.set_cons_zero, List.set_cons_succ]
    refine wpAnyH_take (i := 18) (v := ?_) rfl (by kernel_rfl) (by kernel_rfl) (by kernel_rfl) (fun _ _ _ h => h) (Or.inl ⟨by rfl, fun w hSw => ?_⟩) hHeld ?_
    rotate_left
    · ((try dsimp only at hSw); go_split_ands; go_simp; (try with_reducible rfl))
    try simp only [Act.put, List.getElem_toArray, List.getElem_cons_zero, List.getElem_cons_succ, List.setIfInBounds_toArray, List.set_cons_zero, List.set_cons_succ]
    refine wpAnyH_take (i := 19) (v := ?_) rfl (by kernel_rfl) (by kernel_rfl) (by kernel_rfl) (fun _ _ _ h => h) (Or.inl ⟨by rfl, fun w hSw => ?_⟩) hHeld ?_
    rotate_left
    · ((try dsimp only at hSw); go_split_ands; go_simp; (try with_reducible rfl))
    try simp only [Act.put, List.getElem_toArray, List.getElem_cons_zero, List.getElem_cons_succ, List.setIfInBounds_toArray, List.set_cons_zero, List.set_cons_succ]
    refine wpAnyH_take (i := 20) (v := ?_) rfl (by kernel_rfl) (by kernel_rfl) (by kernel_rfl) (fun _ _ _ h => h) (Or.inl ⟨by rfl, fun w hSw => ?_⟩) hHeld ?_
    rotate_left
    · ((try dsimp only at hSw); go_split_ands; go_simp; (try with_reducible rfl))
    try simp only [Act.put, List.getElem_toArray, List.getElem_cons_zero, List.getElem_cons_succ, List.setIfInBounds_toArray, List.set_cons_zero, List.set_cons_succ]
    refine wpAnyH_ready (rs := [17]) (by kernel_rfl) (by simp) ?_
    refine AllReadyH.cons rfl (fun K hK => ?_) AllReadyH.nil
    try simp only [List.getElem_toArray, List.getElem_cons_zero, List.getElem_cons_succ]
    (go_simp; refine (c_impl_Holds _ _ s a _ (HSV.out.below HB10.out) (HAV.out.below HB10.out)).mono ?_; rintro e w11 ⟨rfl, hB11⟩; rw [HHH.out]; have HB11 := Lib.hid (bgo HB10.out hB11); have ka11 := ka10.next hB11; have ks11 := ks10.next hB11; have ko11 := ko10.next hB11)
    refine hK.out _ _ (⟨ks11.cell, ka11.cell, ko11.cell⟩) (fun hHeldN => ?_)
    clear hHeld hK K
    have hHeld := hHeldN
    clear hHeldN
    try simp only [Act.put, List.getElem_toArray, List.getElem_cons_zero, List.getElem_cons_succ, List.setIfInBounds_toArray, List.set_cons_zero, List.set_cons_succ]
    refine wpAnyH_ready (rs := [21]) (by kernel_rfl) (by simp) ?_
    refine AllReadyH.cons rfl (fun K hK => ?_) AllReadyH.nil
    try simp only [List.getElem_toArray, List.getElem_cons_zero, List.getElem_cons_succ]
    (go_simp; refine (c_impl_UsedCells _ s _ (HSV.out.below HB11.out)).mono ?_; rintro e w12 ⟨r12, rfl, o12, hB12⟩; rw [HUF.out] at o12; obtain ⟨A12, c12, rfl, -⟩ := o12.reads; have HB12 := Lib.hid (bgo HB11.out hB12); have ka12 := ka11.next hB12; have ks12 := ks11.next hB12; have ko12 := ko11.next hB12)
    refine hK.out _ _ (⟨ks12.cell, ka12.cell, ko12.cell⟩) (fun hHeldN => ?_)
    clear hHeld hK K
    have hHeld := hHeldN
    clear hHeldN
    try simp only [Act.put, List.getElem_toArray, List.getElem_cons_zero, List.getElem_cons_succ, List.setIfInBounds_toArray, List.set_cons_zero, List.set_cons_succ]
    refine wpAnyH_take (i := 22) (v := ?_) rfl (by kernel_rfl) (by kernel_rfl) (by kernel_rfl) (fun _ _ _ h => h) (Or.inl ⟨by rfl, fun w hSw => ?_⟩) hHeld ?_
    rotate_left
    · ((try dsimp only at hSw); go_split_ands; go_simp; (try with_reducible rfl))
    try simp only [Act.put, List.getElem_toArray, List.getElem_cons_zero, List.getElem_cons_succ, List.setIfInBounds_toArray, List.set_cons_zero, List.set_cons_succ]
    refine wpAnyH_take (i := 23) (v := ?_) rfl (by kernel_rfl) (by kernel_rfl) (by kernel_rfl) (fun _ _ _ h => h) (Or.inl ⟨by rfl, fun w hSw => ?_⟩) hHeld ?_
    rotate_left
    · ((try dsimp only at hSw); go_split_ands; go_simp; (try with_reducible rfl))
    try simp only [Act.put, List.getElem_toArray, List.getElem_cons_zero, List.getElem_cons_succ, List.setIfInBounds_toArray, List.set_cons_zero, List.set_cons_succ]
    refine wpAnyH_take (i := 24) (v := ?_) rfl (by kernel_rfl) (by kernel_rfl) (by kernel_rfl) (fun _ _ _ h => h) (Or.inl ⟨by rfl, fun w hSw => ?_⟩) hHeld ?_
    rotate_left
    · ((try dsimp only at hSw); go_split_ands; go_simp; (try with_reducible rfl))
    try simp only [Act.put, List.getElem_toArray, List.getElem_cons_zero, List.getElem_cons_succ, List.setIfInBounds_toArray, List.set_cons_zero, List.set_cons_succ]
    refine wpAnyH_take (i := 25) (v := ?_) rfl (by kernel_rfl) (by kernel_rfl) (by kernel_rfl) (fun _ _ _ h => h) (Or.inl ⟨by rfl, fun w hSw => ?_⟩) hHeld ?_
    rotate_left
    · ((try dsimp only at hSw); go_split_ands; go_simp; (try with_reducible rfl))
    try simp only [Act.put, List.getElem_toArray, List.getElem_cons_zero, List.getElem_cons_succ, List.setIfInBounds_toArray, List.set_cons_zero, List.set_cons_succ]
    refine wpAnyH_take (i := 26) (v := ?_) rfl (by kernel_rfl) (by kernel_rfl) (by kernel_rfl) (fun _ _ _ h => h) (Or.inl ⟨by rfl, fun w hSw => ?_⟩) hHeld ?_
    rotate_left
    · ((try dsimp only at hSw); go_split_ands; go_simp; (try with_reducible rfl))
    try simp only [Act.put, List.getElem_toArray, List.getElem_cons_zero, List.getElem_cons_succ, List.setIfInBounds_toArray, List.set_cons_zero, List.set_cons_succ]
    refine wpAnyH_done (by kernel_rfl) ?_ _
    refine NoPanic.normal ?_
    go_wp2_with fail
    go_ret
    exact ⟨rfl, bgo HB1.out HB12.out⟩
  · have HHH := Lib.hid hh
    have hlen : ((L.length : Int) == (U.length : Int)) = true := by
      have h1 := HLE.out
      rw [hh] at h1
      have h2 := of_decide_eq_true h1.symm
      simp; omega
    clear hh
    (replace qka := ka.cell; replace rka := ka.frozen; replace lka := ka.lt; replace qks := ks.cell; replace rks := ks.frozen; replace lks := ks.lt; replace qko := ko.cell; replace rko := ko.frozen; replace lko := ko.lt)
    go_wp2_with fail
    refine wp_region_noPanic ?_
    refine wp_region_held_drew (S := (fun w' => (∀ i, w'.cell? ⟨w1.heap.size, i, none⟩ = #[.slice SA s.values.length sc, .slice SB s.heap.length sd][i]?) ∧ (∀ i, w'.cell? ⟨w1.heap.size + 1, i, none⟩ = #[.slice F a.facts.length e1, .slice G a.atoms.length e2][i]?) ∧ (∀ i, w'.cell? ⟨w6.heap.size, i, none⟩ = #[.slice XA own.values.length xc, .slice XB own.heap.length xd][i]?))) (by kernel_rfl) (⟨Blk.cell (by repeat (first | (with_reducible assumption) | (with_reducible exact Blk.new _ _ _) | ((with_reducible apply Blk.far); (case hp => (first | exact Nat.le_refl _ | (simp; done) | (simp; omega) | (simp only; omega) | omega))) | (with_reducible apply Blk.set_) | ((with_reducible refine Blk.newE ?_); (simp; done)) | (with_reducible apply Blk.alloc) | (with_reducible apply Blk.drew) | (with_reducible apply Blk.drewN))), Blk.cell (by repeat (first | (with_reducible assumption) | (with_reducible exact Blk.new _ _ _) | ((with_reducible apply Blk.far); (case hp => (first | exact Nat.le_refl _ | (simp; done) | (simp; omega) | (simp only; omega) | omega))) | (with_reducible apply Blk.set_) | ((with_reducible refine Blk.newE ?_); (simp; done)) | (with_reducible apply Blk.alloc) | (with_reducible apply Blk.drew) | (with_reducible apply Blk.drewN))), Blk.cell (by repeat (first | (with_reducible assumption) | (with_reducible exact Blk.new _ _ _) | ((with_reducible apply Blk.far); (case hp => (first | exact Nat.le_refl _ | (simp; done) | (simp; omega) | (simp only; omega) | omega))) | (with_reducible apply Blk.set_) | ((with_reducible refine Blk.newE ?_); (simp; done)) | (with_reducible apply Blk.alloc) | (with_reducible apply Blk.drew) | (with_reducible apply Blk.drewN)))⟩) (fun hHeld => ?_)
    refine wpAnyH_take (i := 0) (v := ?_) rfl (by kernel_rfl) (by kernel_rfl) (by kernel_rfl) (fun _ _ _ h => h) (Or.inl ⟨by rfl, fun w hSw => ?_⟩) hHeld ?_
    rotate_left
    · ((try dsimp only at hSw); go_split_ands; go_simp; (try with_reducible rfl))
    try simp only [Act.put, List.getElem_toArray, List.getElem_cons_zero, List.getElem_cons_succ, List.setIfInBounds_toArray, List.set_cons_zero, List.set_cons_succ]
    refine wpAnyH_take (i := 1) (v := ?_) rfl (by kernel_rfl) (by kernel_rfl) (by kernel_rfl) (fun _ _ _ h => h) (Or.inl ⟨by rfl, fun w hSw => ?_⟩) hHeld ?_
    rotate_left
    · ((try dsimp only at hSw); go_split_ands; go_simp; (try with_reducible rfl))
    try simp only [Act.put, List.getElem_toArray, List.getElem_cons_zero, List.getElem_cons_succ, List.setIfInBounds_toArray, List.set_cons_zero, List.set_cons_succ]
    refine wpAnyH_take (i := 2) (v := ?_) rfl (by kernel_rfl) (by kernel_rfl) (by kernel_rfl) (fun _ _ _ h => h) (Or.inl ⟨by rfl, fun w hSw => ?_⟩) hHeld ?_
    rotate_left
    · ((try dsimp only at hSw); go_split_ands; go_simp; (try with_reducible rfl))
    try simp only [Act.put, List.getElem_toArray, List.getElem_cons_zero, List.getElem_cons_succ, List.setIfInBounds_toArray, List.set_cons_zero, List.set_cons_succ]
    refine wpAnyH_take (i := 3) (v := ?_) rfl (by kernel_rfl) (by kernel_rfl) (by kernel_rfl) (fun _ _ _ h => h) (Or.inl ⟨by rfl, fun w hSw => ?_⟩) hHeld ?_
    rotate_left
    · ((try dsimp only at hSw); go_split_ands; go_simp; (try with_reducible rfl))
    try simp only [Act.put, List.getElem_toArray, List.getElem_cons_zero, List.getElem_cons_succ, List.setIfInBounds_toArray, List.set_cons_zero, List.set_cons_succ]
    refine wpAnyH_take (i := 4) (v := ?_) rfl (by kernel_rfl) (by kernel_rfl) (by kernel_rfl) (fun _ _ _ h => h) (Or.inl ⟨by rfl, fun w hSw => ?_⟩) hHeld ?_
    rotate_left
    · ((try dsimp only at hSw); go_split_ands; go_simp; (try with_reducible rfl))
    try simp only [Act.put, List.getElem_toArray, List.getElem_cons_zero, List.getElem_cons_succ, List.setIfInBounds_toArray, List.set_cons_zero, List.set_cons_succ]
    refine wpAnyH_take (i := 5) (v := ?_) rfl (by kernel_rfl) (by kernel_rfl) (by kernel_rfl) (fun _ _ _ h => h) (Or.inl ⟨by rfl, fun w hSw => ?_⟩) hHeld ?_
    rotate_left
    · ((try dsimp only at hSw); go_split_ands; go_simp; (try with_reducible rfl))
    try simp only [Act.put, List.getElem_toArray, List.getElem_cons_zero, List.getElem_cons_succ, List.setIfInBounds_toArray, List.set_cons_zero, List.set_cons_succ]
    refine wpAnyH_take (i := 6) (v := ?_) rfl (by kernel_rfl) (by kernel_rfl) (by kernel_rfl) (fun _ _ _ h => h) (Or.inl ⟨by rfl, fun w hSw => ?_⟩) hHeld ?_
    rotate_left
    · ((try dsimp only at hSw); go_split_ands; go_simp; (try with_reducible rfl))
    try simp only [Act.put, List.getElem_toArray, List.getElem_cons_zero, List.getElem_cons_succ, List.setIfInBounds_toArray, List.set_cons_zero, List.set_cons_succ]
    refine wpAnyH_ready (rs := [7]) (by kernel_rfl) (by simp) ?_
    refine AllReadyH.cons rfl (fun K hK => ?_) AllReadyH.nil
    try simp only [List.getElem_toArray, List.getElem_cons_zero, List.getElem_cons_succ]
    (go_simp; refine (c_slIntsT A8 A3 c8 c3 L _ (HL8.out.below (by repeat (first | (with_reducible exact Below.refl _ _) | (with_reducible assumption) | (with_reducible apply bbox) | ((with_reducible apply Below.setCell); (case hp => (first | exact Nat.le_refl _ | (simp; done) | (simp; omega) | (simp only; omega) | omega))) | (with_reducible apply Below.drew) | (with_reducible apply below_drewN)))) (HL38.out.below (by repeat (first | (with_reducible exact Below.refl _ _) | (with_reducible assumption) | (with_reducible apply bbox) | ((with_reducible apply Below.setCell); (case hp => (first | exact Nat.le_refl _ | (simp; done) | (simp; omega) | (simp only; omega) | omega))) | (with_reducible apply Below.drew) | (with_reducible apply below_drewN))))).mono ?_; rintro e w9 ⟨rfl, hB9⟩; have HB9 := Lib.hid (bgo (bgo HB8.out (Below.refl _ w8).drew) hB9); have HXV4 := Lib.hid ((HXV3.out.below (Below.refl _ w8).drew).below hB9); have ka9 := ka.drew.next hB9; have ks9 := ks.drew.next hB9; have ko9 := ko.drew.next hB9)
    refine hK.out _ _ (⟨ks9.cell, ka9.cell, ko9.cell⟩) (fun hHeldN => ?_)
    clear hHeld hK K
    have hHeld := hHeldN
    clear hHeldN
    try simp only [Act.put, List.getElem_toArray, List.getElem_cons_zero, List.getElem_cons_succ, List.setIfInBounds_toArray, List.set_cons_zero, List.set_cons_succ]
    refine wpAnyH_take (i := 8) (v := ?_) rfl (by kernel_rfl) (by kernel_rfl) (by kernel_rfl) (fun _ _ _ h => h) (Or.inl ⟨by rfl, fun w hSw => ?_⟩) hHeld ?_
    rotate_left
    · ((try dsimp only at hSw); go_split_ands; go_simp; (try with_reducible rfl))
    try simp only [Act.put, List.getElem_toArray, List.getElem_cons_zero, List.getElem_cons_succ, List.setIfInBounds_toArray, List.set_cons_zero, List.set_cons_succ]
    refine wpAnyH_take (i := 9) (v := ?_) rfl (by kernel_rfl) (by kernel_rfl) (by kernel_rfl) (fun _ _ _ h => h) (Or.inl ⟨by rfl, fun w hSw => ?_⟩) hHeld ?_
    rotate_left
    · ((try dsimp only at hSw); go_split_ands; go_simp; (try with_reducible rfl))
    try simp only [Act.put, List.getElem_toArray, List.getElem_cons_zero, List.getElem_cons_succ, List.setIfInBounds_toArray, List.set_cons_zero, List.set_cons_succ]
    refine wpAnyH_take (i := 10) (v := ?_) rfl (by kernel_rfl) (by kernel_rfl) (by kernel_rfl) (fun _ _ _ h => h) (Or.inl ⟨by rfl, fun w hSw => ?_⟩) hHeld ?_
    rotate_left
    · ((try dsimp only at hSw); go_split_ands; go_simp; (try with_reducible rfl))
    try simp only [Act.put, List.getElem_toArray, List.getElem_cons_zero, List.getElem_cons_succ, List.setIfInBounds_toArray, List.set_cons_zero, List.set_cons_succ]
    refine wpAnyH_take (i := 11) (v := ?_) rfl (by kernel_rfl) (by kernel_rfl) (by kernel_rfl) (fun _ _ _ h => h) (Or.inl ⟨by rfl, fun w hSw => ?_⟩) hHeld ?_
    rotate_left
    · ((try dsimp only at hSw); go_split_ands; go_simp; (try with_reducible rfl))
    try simp only [Act.put, List.getElem_toArray, List.getElem_cons_zero, List.getElem_cons_succ, List.setIfInBounds_toArray, List.set_cons_zero, List.set_cons_succ]
    refine wpAnyH_ready (rs := [12]) (by kernel_rfl) (by simp) ?_
    refine AllReadyH.cons rfl (fun K hK => ?_) AllReadyH.nil
    try simp only [List.getElem_toArray, List.getElem_cons_zero, List.getElem_cons_succ]
    (go_simp; refine (c_impl_Holds _ _ own a _ HXV4.out (HAV.out.below HB9.out)).mono ?_; rintro e w10 ⟨rfl, hB10⟩; rw [HOW.out.2]; have HB10 := Lib.hid (bgo HB9.out hB10); have ka10 := ka9.next hB10; have ks10 := ks9.next hB10; have ko10 := ko9.next hB10)
    refine hK.out _ _ (⟨ks10.cell, ka10.cell, ko10.cell⟩) (fun hHeldN => ?_)
    clear hHeld hK K
    have hHeld := hHeldN
    clear hHeldN
    try simp only [Act.put, List.getElem_toArray, List.getElem_cons_zero, List.getElem_cons_succ, List.setIfInBounds_toArray, List.set_cons_zero, List.set_cons_succ]
    refine wpAnyH_take (i := 13) (v := ?_) rfl (by kernel_rfl) (by kernel_rfl) (by kernel_rfl) (fun _ _ _ h => h) (Or.inl ⟨by rfl, fun w hSw => ?_⟩) hHeld ?_
    rotate_left
    · ((try dsimp only at hSw); go_split_ands; go_simp; (try with_reducible rfl))
    try simp only [Act.put, List.getElem_toArray, List.getElem_cons_zero, List.getElem_cons_succ, List.setIfInBounds_toArray, List.set_cons_zero, List.set_cons_succ]
    refine wpAnyH_take (i := 14) (v := ?_) rfl (by kernel_rfl) (by kernel_rfl) (by kernel_rfl) (fun _ _ _ h => h) (Or.inl ⟨by rfl, fun w hSw => ?_⟩) hHeld ?_
    rotate_left
    · ((try dsimp only at hSw); go_split_ands; go_simp; (try with_reducible rfl))
    try simp only [Act.put, List.getElem_toArray, List.getElem_cons_zero, List.getElem_cons_succ, List.setIfInBounds_toArray, List.set_cons_zero, List.set_cons_succ]
    refine wpAnyH_take (i := 15) (v := ?_) rfl (by kernel_rfl) (by kernel_rfl) (by kernel_rfl) (fun _ _ _ h => h) (Or.inl ⟨by rfl, fun w hSw => ?_⟩) hHeld ?_
    rotate_left
    · ((try dsimp only at hSw); go_split_ands; go_simp; (try with_reducible rfl))
    try simp only [Act.put, List.getElem_toArray, List.getElem_cons_zero, List.getElem_cons_succ, List.setIfInBounds_toArray, List.set_cons_zero, List.set_cons_succ]
    refine wpAnyH_take (i := 16) (v := ?_) rfl (by kernel_rfl) (by kernel_rfl) (by kernel_rfl) (fun _ _ _ h => h) (Or.inl ⟨by rfl, fun w hSw => ?_⟩) hHeld ?_
    rotate_left
    · ((try dsimp only at hSw); go_split_ands; go_simp; (try with_reducible rfl))
    try simp only [Act.put, List.getElem_toArray, List.getElem_cons_zero, List.getElem_cons_succ, List.setIfInBounds_toArray, List.set_cons_zero, List.set_cons_succ]
    refine wpAnyH_take (i := 18) (v := ?_) rfl (by kernel_rfl) (by kernel_rfl) (by kernel_rfl) (fun _ _ _ h => h) (Or.inl ⟨by rfl, fun w hSw => ?_⟩) hHeld ?_
    rotate_left
    · ((try dsimp only at hSw); go_split_ands; go_simp; (try with_reducible rfl))
    try simp only [Act.put, List.getElem_toArray, List.getElem_cons_zero, List.getElem_cons_succ, List.setIfInBounds_toArray, List.set_cons_zero, List.set_cons_succ]
    refine wpAnyH_take (i := 19) (v := ?_) rfl (by kernel_rfl) (by kernel_rfl) (by kernel_rfl) (fun _ _ _ h => h) (Or.inl ⟨by rfl, fun w hSw => ?_⟩) hHeld ?_
    rotate_left
    · ((try dsimp only at hSw); go_split_ands; go_simp; (try with_reducible rfl))
    try simp only [Act.put, List.getElem_toArray, List.getElem_cons_zero, List.getElem_cons_succ, List.setIfInBounds_toArray, List.set_cons_zero, List.set_cons_succ]
    refine wpAnyH_take (i := 20) (v := ?_) rfl (by kernel_rfl) (by kernel_rfl) (by kernel_rfl) (fun _ _ _ h => h) (Or.inl ⟨by rfl, fun w hSw => ?_⟩) hHeld ?_
    rotate_left
    · ((try dsimp only at hSw); go_split_ands; go_simp; (try with_reducible rfl))
    try simp only [Act.put, List.getElem_toArray, List.getElem_cons_zero, List.getElem_cons_succ, List.setIfInBounds_toArray, List.set_cons_zero, List.set_cons_succ]
    refine wpAnyH_ready (rs := [17]) (by kernel_rfl) (by simp) ?_
    refine AllReadyH.cons rfl (fun K hK => ?_) AllReadyH.nil
    try simp only [List.getElem_toArray, List.getElem_cons_zero, List.getElem_cons_succ]
    (go_simp; refine (c_impl_Holds _ _ s a _ (HSV.out.below HB10.out) (HAV.out.below HB10.out)).mono ?_; rintro e w11 ⟨rfl, hB11⟩; rw [HHH.out]; have HB11 := Lib.hid (bgo HB10.out hB11); have ka11 := ka10.next hB11; have ks11 := ks10.next hB11; have ko11 := ko10.next hB11)
    refine hK.out _ _ (⟨ks11.cell, ka11.cell, ko11.cell⟩) (fun hHeldN => ?_)
    clear hHeld hK K
    have hHeld := hHeldN
    clear hHeldN
    try simp only [Act.put, List.getElem_toArray, List.getElem_cons_zero, List.getElem_cons_succ, List.setIfInBounds_toArray, List.set_cons_zero, List.set_cons_succ]
    refine wpAnyH_ready (rs := [21]) (by kernel_rfl) (by simp) ?_
    refine AllReadyH.cons rfl (fun K hK => ?_) AllReadyH.nil
    try simp only [List.getElem_toArray, List.getElem_cons_zero, List.getElem_cons_succ]
    (go_simp; refine (c_impl_UsedCells _ s _ (HSV.out.below HB11.out)).mono ?_; rintro e w12 ⟨r12, rfl, o12, hB12⟩; rw [HUF.out] at o12; obtain ⟨A12, c12, rfl, -⟩ := o12.reads; have HB12 := Lib.hid (bgo HB11.out hB12); have ka12 := ka11.next hB12; have ks12 := ks11.next hB12; have ko12 := ko11.next hB12)
    refine hK.out _ _ (⟨ks12.cell, ka12.cell, ko12.cell⟩) (fun hHeldN => ?_)
    clear hHeld hK K
    have hHeld := hHeldN
    clear hHeldN
    try simp only [Act.put, List.getElem_toArray, List.getElem_cons_zero, List.getElem_cons_succ, List.setIfInBounds_toArray, List.set_cons_zero, List.set_cons_succ]
    refine wpAnyH_take (i := 22) (v := ?_) rfl (by kernel_rfl) (by kernel_rfl) (by kernel_rfl) (fun _ _ _ h => h) (Or.inl ⟨by rfl, fun w hSw => ?_⟩) hHeld ?_
    rotate_left
    · ((try dsimp only at hSw); go_split_ands; go_simp; (try with_reducible rfl))
    try simp only [Act.put, List.getElem_toArray, List.getElem_cons_zero, List.getElem_cons_succ, List.setIfInBounds_toArray, List.set_cons_zero, List.set_cons_succ]
    refine wpAnyH_take (i := 23) (v := ?_) rfl (by kernel_rfl) (by kernel_rfl) (by kernel_rfl) (fun _ _ _ h => h) (Or.inl ⟨by rfl, fun w hSw => ?_⟩) hHeld ?_
    rotate_left
    · ((try dsimp only at hSw); go_split_ands; go_simp; (try with_reducible rfl))
    try simp only [Act.put, List.getElem_toArray, List.getElem_cons_zero, List.getElem_cons_succ, List.setIfInBounds_toArray, List.set_cons_zero, List.set_cons_succ]
    refine wpAnyH_take (i := 24) (v := ?_) rfl (by kernel_rfl) (by kernel_rfl) (by kernel_rfl) (fun _ _ _ h => h) (Or.inl ⟨by rfl, fun w hSw => ?_⟩) hHeld ?_
    rotate_left
    · ((try dsimp only at hSw); go_split_ands; go_simp; (try with_reducible rfl))
    try simp only [Act.put, List.getElem_toArray, List.getElem_cons_zero, List.getElem_cons_succ, List.setIfInBounds_toArray, List.set_cons_zero, List.set_cons_succ]
    refine wpAnyH_take (i := 25) (v := ?_) rfl (by kernel_rfl) (by kernel_rfl) (by kernel_rfl) (fun _ _ _ h => h) (Or.inl ⟨by rfl, fun w hSw => ?_⟩) hHeld ?_
    rotate_left
    · ((try dsimp only at hSw); go_split_ands; go_simp; (try with_reducible rfl))
    try simp only [Act.put, List.getElem_toArray, List.getElem_cons_zero, List.getElem_cons_succ, List.setIfInBounds_toArray, List.set_cons_zero, List.set_cons_succ]
    refine wpAnyH_take (i := 26) (v := ?_) rfl (by kernel_rfl) (by kernel_rfl) (by kernel_rfl) (fun _ _ _ h => h) (Or.inl ⟨by rfl, fun w hSw => ?_⟩) hHeld ?_
    rotate_left
    · ((try dsimp only at hSw); go_split_ands; go_simp; (try with_reducible rfl))
    try simp only [Act.put, List.getElem_toArray, List.getElem_cons_zero, List.getElem_cons_succ, List.setIfInBounds_toArray, List.set_cons_zero, List.set_cons_succ]
    refine wpAnyH_done (by kernel_rfl) ?_ _
    refine NoPanic.normal ?_
    go_wp2_with fail
    go_ret
    exact ⟨rfl, bgo HB1.out HB12.out⟩
end Go.Proofs.Ytdhllcejahdjfaa
