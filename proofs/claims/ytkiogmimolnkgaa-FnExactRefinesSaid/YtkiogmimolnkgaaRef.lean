/- Contracts: one contract refines another. -/
import Derived.Test.YtkiogmimolnkgaaFailH
import Derived.Test.YtkiogmimolnkgaaCtr
namespace Go.Proofs.Ytkiogmimolnkgaa
open Go Go.RowKit Go.Proofs
attribute [local go_sem ↓] Go.wp_at_zero Go.wp_at_succ

/-- all terms of xs are in S -/
def inB (S : Nat) (xs : List Int) : Bool := xs.all fun x => S.testBit x.toNat

theorem inB_iff {xs : List Int} {S : Nat} (hx : ∀ x ∈ xs, isTermB x = true) (hS : S < 512) : (tset xs &&& (65535 - S) = 0) ↔ inB S xs = true := by
  unfold inB
  rw [List.all_eq_true]
  have hb : ∀ i, (65535 - S).testBit i = (decide (i < 16) && !S.testBit i) := fun i => by
    have := Nat.testBit_two_pow_sub_succ (x := S) (n := 16) (by omega) i
    rwa [show 2 ^ 16 - (S + 1) = 65535 - S from by omega] at this
  constructor
  · intro h x hm
    have ht := isTermB_iff.1 (hx x hm)
    obtain ⟨n, rfl⟩ := Int.eq_ofNat_of_zero_le ht.1
    have := congrArg (fun s => Nat.testBit s n) h
    simp only [Nat.testBit_and, Nat.zero_testBit, hb, tset_bit] at this
    rw [decide_eq_true (⟨hx _ hm, hm⟩ : isTermB (n : Int) = true ∧ (n : Int) ∈ xs), decide_eq_true (show n < 16 by omega)] at this
    simpa using this
  · intro h
    apply Nat.eq_of_testBit_eq
    intro n
    rw [Nat.testBit_and, Nat.zero_testBit, hb, tset_bit]
    by_cases hm : isTermB (n : Int) = true ∧ (n : Int) ∈ xs
    · have := h _ hm.2
      rw [Int.toNat_natCast] at this
      rw [this]; simp
    · rw [decide_eq_false hm]; rfl
def refF (k m : Ctr) : Bool := k.valid && m.valid && (inB (tset m.changes) k.changes && entF m.pre k.pre && entF k.post m.post)
theorem changes_terms {xs : List Int} : ∀ {l : Int}, changesFrom l xs = true → ∀ x ∈ xs, isTermB x = true := by
  induction xs with
  | nil => intro l _ x hx; cases hx
  | cons y ys ih =>
    intro l h x hx
    simp only [changesFrom, Bool.and_eq_true] at h
    rcases List.mem_cons.1 hx with rfl | hx
    · have := h.1.1
      simp [isProgB] at this
      exact isTermB_iff.2 (by omega)
    · exact ih h.2 x hx

--@ spec.l12Within
set_option maxRecDepth 100000 in
set_option maxHeartbeats 1600000 in
theorem c_spec_l12Within {lo hi lo' hi' : Nat} (A B : Option Addr) (c d : Nat) (xs ys : List Int) (w : World) (h : IntsV w lo hi A xs) (h' : IntsV w lo' hi' B ys) (hx : ∀ x ∈ xs, isTermB x = true) :
    Calls Try.prog 93 #[.slice A xs.length c, .slice B ys.length d] w fun e w' => e = .returned (.bool (inB (tset ys) xs)) ∧ Below w.heap.size w w' := by
  have hl := h.le
  have HX := Lib.hid hx
  have H := Lib.hid h
  have H' := Lib.hid h'
  have HI : Hid (inB (tset ys) xs = xs.all fun x => (tset ys).testBit x.toNat) := rfl
  clear hx h h'
  go_enter Try.func93, Try.ntmps93
  go_wp2_with fail
  go_loopw [5] (fun i wr => ∃ k : Nat, k ≤ xs.length ∧ i = .int .i64 k ∧ Hid (inB (tset ys) xs = (xs.drop k).all fun x => (tset ys).testBit x.toNat) ∧ Below w.heap.size w wr) (fun i _ => xs.length - (intOf i).toNat)
  case atStart => exact ⟨0, Nat.zero_le _, rfl, HI.out, Below.refl _ _⟩
  case round =>
    obtain ⟨k, hk, rfl, HA, hB⟩ := hrel
    by_cases hlt : k < xs.length
    · obtain ⟨b, off, rfl, c0⟩ := (H.out.below hB).at hlt
      have hbl := block_lt_of_cell c0
      have HN := Lib.hid (all_drop (fun x : Int => (tset ys).testBit x.toNat) xs k hlt)
      have ht := isTermB_iff.1 (HX.out _ (List.getElem_mem hlt))
      obtain ⟨m, hm⟩ := Int.eq_ofNat_of_zero_le ht.1
      have hm8 : m < 9 := by omega
      have HM : Hid ((tset ys).testBit xs[k].toNat = (tset ys).testBit m) := by show _ = _; rw [hm]; rfl
      rw [hm] at c0
      clear hm ht
      have hmi : (m : Int) < 9 := by omega
      have hki : (k : Int) < (xs.length : Int) := by omega
      go_wp2_with fail
      refine wp_region_noPanic ?_
      refine wp_region_held_drew (S := (fun w' => w'.cell? ⟨b, off + k, none⟩ = some (.int .i64 (m : Int)))) (by kernel_rfl) (c0) (fun hHeld => ?_)
      refine wpAnyH_take (i := 0) (v := ?_) rfl (by kernel_rfl) (by kernel_rfl) (by kernel_rfl) (fun _ _ _ h => h) (Or.inl ⟨by rfl, fun w hSw => ?_⟩) hHeld ?_
      rotate_left
      · ((try dsimp only at hSw); go_split_ands; go_simp; (try with_reducible rfl))
      try simp only [Act.put, List.getElem_toArray, List.getElem_cons_zero, List.getElem_cons_succ, List.setIfInBounds_toArray, List.set_cons_zero, List.set_cons_succ]
      refine wpAnyH_take (i := 2) (v := ?_) rfl (by kernel_rfl) (by kernel_rfl) (by kernel_rfl) (fun _ _ _ h => h) (Or.inl ⟨by rfl, fun w hSw => ?_⟩) hHeld ?_
      rotate_left
      · ((try dsimp only at hSw); go_split_ands; go_simp; (try with_reducible rfl))
      try simp only [Act.put, List.getElem_toArray, List.getElem_cons_zero, List.getElem_cons_succ, List.setIfInBounds_toArray, List.set_cons_zero, List.set_cons_succ]
      refine wpAnyH_take (i := 3) (v := ?_) rfl (by kernel_rfl) (by kernel_rfl) (by kernel_rfl) (fun _ _ _ h => h) (Or.inl ⟨by rfl, fun w hSw => ?_⟩) hHeld ?_
      rotate_left
      · ((try dsimp only at hSw); go_split_ands; go_simp; (try with_reducible rfl))
      try simp only [Act.put, List.getElem_toArray, List.getElem_cons_zero, List.getElem_cons_succ, List.setIfInBounds_toArray, List.set_cons_zero, List.set_cons_succ]
      refine wpAnyH_take (i := 4) (v := ?_) rfl (by kernel_rfl) (by kernel_rfl) (by kernel_rfl) (fun _ _ _ h => h) (Or.inl ⟨by rfl, fun w hSw => ?_⟩) hHeld ?_
      rotate_left
      · ((try dsimp only at hSw); go_split_ands; go_simp; (try with_reducible rfl))
      try simp only [Act.put, List.getElem_toArray, List.getElem_cons_zero, List.getElem_cons_succ, List.setIfInBounds_toArray, List.set_cons_zero, List.set_cons_succ]
      refine wpAnyH_take (i := 5) (v := ?_) rfl (by kernel_rfl) (by kernel_rfl) (by kernel_rfl) (fun _ _ _ h => h) (Or.inl ⟨by rfl, fun w hSw => ?_⟩) hHeld ?_
      rotate_left
      · ((try dsimp only at hSw); go_split_ands; go_simp; (try with_reducible rfl))
      try simp only [Act.put, List.getElem_toArray, List.getElem_cons_zero, List.getElem_cons_succ, List.setIfInBounds_toArray, List.set_cons_zero, List.set_cons_succ]
      refine wpAnyH_ready (rs := [1]) (by kernel_rfl) (by simp) ?_
      refine AllReadyH.cons rfl (fun K hK => ?_) AllReadyH.nil
      try simp only [List.getElem_toArray, List.getElem_cons_zero, List.getElem_cons_succ]
      (go_simp; refine (c_spec_l10Busy B d ys _ (H'.out.below hB.drew)).mono ?_; rintro e w3 ⟨r, rfl, oT, hB3⟩; have hB' := bgo (w := w) (by repeat (first | (with_reducible exact Below.refl _ _) | (with_reducible assumption) | (with_reducible apply bbox) | ((with_reducible apply Below.setCell); (case hp => (first | exact Nat.le_refl _ | (simp; done) | (simp; omega) | (simp only; omega) | omega))) | (with_reducible apply Below.drew) | (with_reducible apply below_drewN))) hB3; obtain ⟨Tb, ct, rfl, fT⟩ := oT.reads; rw [flagsOf_length]; have c1 := ((bcell hB3).1 b (off + k) hbl).trans c0; obtain ⟨pt, ot, rfl, lpt⟩ := flags_addr fT; have f1 := flags_at fT (m := m) (by omega); clear oT hB3)
      refine hK.out _ _ (c1) (fun hHeldN => ?_)
      clear hHeld hK K
      have hHeld := hHeldN
      clear hHeldN
      try simp only [Act.put, List.getElem_toArray, List.getElem_cons_zero, List.getElem_cons_succ, List.setIfInBounds_toArray, List.set_cons_zero, List.set_cons_succ]
      cases hb : (tset ys).testBit m
      all_goals
        rw [hb] at f1
        have HZ := Lib.hid hb
        clear hb
        refine wpAnyH_take (i := 6) (v := ?_) rfl (by kernel_rfl) (by kernel_rfl) (by kernel_rfl) (fun _ _ _ h => h) (Or.inl ⟨by rfl, fun w hSw => ?_⟩) hHeld ?_
        rotate_left
        · ((try dsimp only at hSw); go_split_ands; go_simp; (try with_reducible rfl))
        try simp only [Act.put, List.getElem_toArray, List.getElem_cons_zero, List.getElem_cons_succ, List.setIfInBounds_toArray, List.set_cons_zero, List.set_cons_succ]
        refine wpAnyH_ready (rs := [7]) (by kernel_rfl) (by simp) ?_
        refine AllReadyH.cons rfl (fun K hK => ?_) AllReadyH.nil
        try simp only [List.getElem_toArray, List.getElem_cons_zero, List.getElem_cons_succ]
        go_simp
        refine hK.out _ _ (c1) (fun hHeldN => ?_)
        clear hHeld hK K
        have hHeld := hHeldN
        clear hHeldN
        try simp only [Act.put, List.getElem_toArray, List.getElem_cons_zero, List.getElem_cons_succ, List.setIfInBounds_toArray, List.set_cons_zero, List.set_cons_succ]
        refine wpAnyH_take (i := 8) (v := ?_) rfl (by kernel_rfl) (by kernel_rfl) (by kernel_rfl) (fun _ _ _ h => h) (Or.inl ⟨by rfl, fun w hSw => ?_⟩) hHeld ?_
        rotate_left
        · ((try dsimp only at hSw); go_split_ands; go_simp; (try with_reducible rfl))
        try simp only [Act.put, List.getElem_toArray, List.getElem_cons_zero, List.getElem_cons_succ, List.setIfInBounds_toArray, List.set_cons_zero, List.set_cons_succ]
        refine wpAnyH_done (by kernel_rfl) ?_ _
        refine NoPanic.normal ?_
        go_wp2_with fail
      · go_ret
        exact ⟨ret_bool (by rw [HA.out, HN.out, HM.out, HZ.out]; rfl), hB'⟩
      · go_round
        case rel => exact ⟨k + 1, by omega, by go_num, by show _ = _; rw [HA.out, HN.out, HM.out, HZ.out]; rfl, hB'⟩
        case measure => simp [intOf]; omega
    · obtain rfl : k = xs.length := by omega
      go_wp2_with fail
      go_ret
      exact ⟨ret_bool (by rw [HA.out, List.drop_length]; rfl), hB⟩

--@ impl.Refines
set_option maxRecDepth 100000 in
set_option maxHeartbeats 6400000 in
theorem c_impl_Refines {lo hi lo' hi' : Nat} (v v' : Value) (k m : Ctr) (w : World) (h : CtrV w lo hi v k) (h' : CtrV w lo' hi' v' m) (hhi : hi ≤ w.heap.size) (hhi' : hi' ≤ w.heap.size) :
    Calls Try.prog 32 #[v, v'] w fun e w' => e = .returned (.bool (refF k m)) ∧ Below w.heap.size w w' := by
  have hV := Lib.hid h
  have hV' := Lib.hid h'
  obtain ⟨a1, a2, a3, a4, A5, c5, rfl, g1, g2, g3⟩ := h
  obtain ⟨b1, b2, b3, b4, B5, d5, rfl, m1, m2, m3⟩ := h'
  have G1 := Lib.hid g1
  have G2 := Lib.hid g2
  have G3 := Lib.hid g3
  have M1 := Lib.hid m1
  have M2 := Lib.hid m2
  have M3 := Lib.hid m3
  clear g1 g2 g3 m1 m2 m3
  have HF : Hid (refF k m = (k.valid && m.valid && (inB (tset m.changes) k.changes && entF m.pre k.pre && entF k.post m.post))) := rfl
  have HUU := Lib.hid (u16_andNot_nat (tset k.changes) (tset m.changes) (by have := tset_lt k.changes; omega) (by have := tset_lt m.changes; omega))
  go_enter Try.func32, Try.ntmps32
  have k0 : Blk ((w.alloc (.cells #[a1, a2, a3, a4, .slice A5 k.changes.length c5] 44)).alloc (.cells #[b1, b2, b3, b4, .slice B5 m.changes.length d5] 44)) w.heap.size 44 #[a1, a2, a3, a4, .slice A5 k.changes.length c5] := (by repeat (first | (with_reducible assumption) | (with_reducible exact Blk.new _ _ _) | ((with_reducible apply Blk.far); (case hp => (first | exact Nat.le_refl _ | (simp; done) | (simp; omega) | (simp only; omega) | omega))) | (with_reducible apply Blk.set_) | ((with_reducible refine Blk.newE ?_); (simp; done)) | (with_reducible apply Blk.alloc) | (with_reducible apply Blk.drew) | (with_reducible apply Blk.drewN)))
  have k1 : Blk ((w.alloc (.cells #[a1, a2, a3, a4, .slice A5 k.changes.length c5] 44)).alloc (.cells #[b1, b2, b3, b4, .slice B5 m.changes.length d5] 44)) (w.heap.size + 1) 44 #[b1, b2, b3, b4, .slice B5 m.changes.length d5] := (by repeat (first | (with_reducible assumption) | (with_reducible exact Blk.new _ _ _) | ((with_reducible apply Blk.far); (case hp => (first | exact Nat.le_refl _ | (simp; done) | (simp; omega) | (simp only; omega) | omega))) | (with_reducible apply Blk.set_) | ((with_reducible refine Blk.newE ?_); (simp; done)) | (with_reducible apply Blk.alloc) | (with_reducible apply Blk.drew) | (with_reducible apply Blk.drewN)))
  go_wp2_with fail
  refine (c_impl_ContractValid _ k _ (hV.out.below (by repeat (first | (with_reducible exact Below.refl _ _) | (with_reducible assumption) | (with_reducible apply bbox) | ((with_reducible apply Below.setCell); (case hp => (first | exact Nat.le_refl _ | (simp; done) | (simp; omega) | (simp only; omega) | omega))) | (with_reducible apply Below.drew) | (with_reducible apply below_drewN))))).mono ?_
  rintro e w1 ⟨rfl, hB1⟩
  have hB := bgo (w := w) (by repeat (first | (with_reducible exact Below.refl _ _) | (with_reducible assumption) | (with_reducible apply bbox) | ((with_reducible apply Below.setCell); (case hp => (first | exact Nat.le_refl _ | (simp; done) | (simp; omega) | (simp only; omega) | omega))) | (with_reducible apply Below.drew) | (with_reducible apply below_drewN))) hB1
  replace k0 := k0.next hB1
  replace k1 := k1.next hB1
  (replace qk0 := k0.cell; replace rk0 := k0.frozen; replace lk0 := k0.lt; replace qk1 := k1.cell; replace rk1 := k1.frozen; replace lk1 := k1.lt)
  clear hB1
  cases hk : k.valid
  · have E := Lib.hid (show refF k m = false by rw [HF.out, hk]; rfl)
    clear hk
    go_wp2_with fail
    go_ret
    exact ⟨ret_bool E.out.symm, (by repeat (first | (with_reducible exact Below.refl _ _) | (with_reducible assumption) | (with_reducible apply bbox) | ((with_reducible apply Below.setCell); (case hp => (first | exact Nat.le_refl _ | (simp; done) | (simp; omega) | (simp only; omega) | omega))) | (with_reducible apply Below.drew) | (with_reducible apply below_drewN)))⟩
  have HK := Lib.hid hk
  clear hk
  go_wp2_with fail
  refine (c_impl_ContractValid _ m _ (hV'.out.below hB)).mono ?_
  rintro e w2 ⟨rfl, hB2⟩
  replace hB := bgo hB hB2
  replace k0 := k0.next hB2
  replace k1 := k1.next hB2
  (replace qk0 := k0.cell; replace rk0 := k0.frozen; replace lk0 := k0.lt; replace qk1 := k1.cell; replace rk1 := k1.frozen; replace lk1 := k1.lt)
  clear hB2
  cases hm : m.valid
  · have E := Lib.hid (show refF k m = false by rw [HF.out, HK.out, hm]; rfl)
    clear hm
    go_wp2_with fail
    go_ret
    exact ⟨ret_bool E.out.symm, (by repeat (first | (with_reducible exact Below.refl _ _) | (with_reducible assumption) | (with_reducible apply bbox) | ((with_reducible apply Below.setCell); (case hp => (first | exact Nat.le_refl _ | (simp; done) | (simp; omega) | (simp only; omega) | omega))) | (with_reducible apply Below.drew) | (with_reducible apply below_drewN)))⟩
  have HMV := Lib.hid hm
  clear hm
  have HI := Lib.hid (inB_iff (xs := k.changes) (S := tset m.changes) (by have := HK.out; simp only [Ctr.valid, Bool.and_eq_true] at this; exact changes_terms this.2) (tset_lt _))
  go_wp2_with fail
  refine wp_region_noPanic ?_
  refine wp_region_held_drew (S := (fun w' => (∀ i, w'.cell? ⟨w.heap.size, i, none⟩ = #[a1, a2, a3, a4, .slice A5 k.changes.length c5][i]?) ∧ (∀ i, w'.cell? ⟨w.heap.size + 1, i, none⟩ = #[b1, b2, b3, b4, .slice B5 m.changes.length d5][i]?))) (by kernel_rfl) (⟨Blk.cell (by repeat (first | (with_reducible assumption) | (with_reducible exact Blk.new _ _ _) | ((with_reducible apply Blk.far); (case hp => (first | exact Nat.le_refl _ | (simp; done) | (simp; omega) | (simp only; omega) | omega))) | (with_reducible apply Blk.set_) | ((with_reducible refine Blk.newE ?_); (simp; done)) | (with_reducible apply Blk.alloc) | (with_reducible apply Blk.drew) | (with_reducible apply Blk.drewN))), Blk.cell (by repeat (first | (with_reducible assumption) | (with_reducible exact Blk.new _ _ _) | ((with_reducible apply Blk.far); (case hp => (first | exact Nat.le_refl _ | (simp; done) | (simp; omega) | (simp only; omega) | omega))) | (with_reducible apply Blk.set_) | ((with_reducible refine Blk.newE ?_); (simp; done)) | (with_reducible apply Blk.alloc) | (with_reducible apply Blk.drew) | (with_reducible apply Blk.drewN)))⟩) (fun hHeld => ?_)
  refine wpAnyH_take (i := 0) (v := ?_) rfl (by kernel_rfl) (by kernel_rfl) (by kernel_rfl) (fun _ _ _ h => h) (Or.inl ⟨by rfl, fun w hSw => ?_⟩) hHeld ?_
  rotate_left
  · ((try dsimp only at hSw); go_split_ands; go_simp; (try with_reducible rfl))
  try simp only [Act.put, List.getElem_toArray, List.getElem_cons_zero, List.getElem_cons_succ, List.setIfInBounds_toArray, List.set_cons_zero, List.set_cons_succ]
  refine wpAnyH_take (i := 1) (v := ?_) rfl (by kernel_rfl) (by kernel_rfl) (by kernel_rfl) (fun _ _ _ h => h) (Or.inl ⟨by rfl, fun w hSw => ?_⟩) hHeld ?_
  rotate_left
  · ((try dsimp only at hSw); go_split_ands; go_simp; (try with_reducible rfl))
  try simp only [Act.put, List.getElem_toArray, List.getElem_cons_zero, List.getElem_cons_succ, List.setIfInBounds_toArray, List.set_cons_zero, List.set_cons_succ]
  refine wpAnyH_take (i := 3) (v := ?_) rfl (by kernel_rfl) (by kernel_rfl) (by kernel_rfl) (fun _ _ _ h => h) (Or.inl ⟨by rfl, fun w hSw => ?_⟩) hHeld ?_
  rotate_left
  · ((try dsimp only at hSw); go_split_ands; go_simp; (try with_reducible rfl))
  try simp only [Act.put, List.getElem_toArray, List.getElem_cons_zero, List.getElem_cons_succ, List.setIfInBounds_toArray, List.set_cons_zero, List.set_cons_succ]
  refine wpAnyH_take (i := 4) (v := ?_) rfl (by kernel_rfl) (by kernel_rfl) (by kernel_rfl) (fun _ _ _ h => h) (Or.inl ⟨by rfl, fun w hSw => ?_⟩) hHeld ?_
  rotate_left
  · ((try dsimp only at hSw); go_split_ands; go_simp; (try with_reducible rfl))
  try simp only [Act.put, List.getElem_toArray, List.getElem_cons_zero, List.getElem_cons_succ, List.setIfInBounds_toArray, List.set_cons_zero, List.set_cons_succ]
  refine wpAnyH_ready (rs := [2]) (by kernel_rfl) (by simp) ?_
  refine AllReadyH.cons rfl (fun K hK => ?_) AllReadyH.nil
  try simp only [List.getElem_toArray, List.getElem_cons_zero, List.getElem_cons_succ]
  (go_simp; refine (c_impl_setOfTerms _ _ k.changes _ (G3.out.below (by repeat (first | (with_reducible exact Below.refl _ _) | (with_reducible assumption) | (with_reducible apply bbox) | ((with_reducible apply Below.setCell); (case hp => (first | exact Nat.le_refl _ | (simp; done) | (simp; omega) | (simp only; omega) | omega))) | (with_reducible apply Below.drew) | (with_reducible apply below_drewN))))).mono ?_; rintro e w3 ⟨rfl, hB3⟩; have hB' := bgo (w := w) (by repeat (first | (with_reducible exact Below.refl _ _) | (with_reducible assumption) | (with_reducible apply bbox) | ((with_reducible apply Below.setCell); (case hp => (first | exact Nat.le_refl _ | (simp; done) | (simp; omega) | (simp only; omega) | omega))) | (with_reducible apply Below.drew) | (with_reducible apply below_drewN))) hB3; replace k0 := Blk.next (g := w.heap.size) (by repeat (first | (with_reducible assumption) | (with_reducible exact Blk.new _ _ _) | ((with_reducible apply Blk.far); (case hp => (first | exact Nat.le_refl _ | (simp; done) | (simp; omega) | (simp only; omega) | omega))) | (with_reducible apply Blk.set_) | ((with_reducible refine Blk.newE ?_); (simp; done)) | (with_reducible apply Blk.alloc) | (with_reducible apply Blk.drew) | (with_reducible apply Blk.drewN))) hB3; replace k1 := Blk.next (g := w.heap.size + 1) (by repeat (first | (with_reducible assumption) | (with_reducible exact Blk.new _ _ _) | ((with_reducible apply Blk.far); (case hp => (first | exact Nat.le_refl _ | (simp; done) | (simp; omega) | (simp only; omega) | omega))) | (with_reducible apply Blk.set_) | ((with_reducible refine Blk.newE ?_); (simp; done)) | (with_reducible apply Blk.alloc) | (with_reducible apply Blk.drew) | (with_reducible apply Blk.drewN))) hB3)
  refine hK.out _ _ (⟨Blk.cell (by repeat (first | (with_reducible assumption) | (with_reducible exact Blk.new _ _ _) | ((with_reducible apply Blk.far); (case hp => (first | exact Nat.le_refl _ | (simp; done) | (simp; omega) | (simp only; omega) | omega))) | (with_reducible apply Blk.set_) | ((with_reducible refine Blk.newE ?_); (simp; done)) | (with_reducible apply Blk.alloc) | (with_reducible apply Blk.drew) | (with_reducible apply Blk.drewN))), Blk.cell (by repeat (first | (with_reducible assumption) | (with_reducible exact Blk.new _ _ _) | ((with_reducible apply Blk.far); (case hp => (first | exact Nat.le_refl _ | (simp; done) | (simp; omega) | (simp only; omega) | omega))) | (with_reducible apply Blk.set_) | ((with_reducible refine Blk.newE ?_); (simp; done)) | (with_reducible apply Blk.alloc) | (with_reducible apply Blk.drew) | (with_reducible apply Blk.drewN)))⟩) (fun hHeldN => ?_)
  clear hHeld hK K
  have hHeld := hHeldN
  clear hHeldN
  try simp only [Act.put, List.getElem_toArray, List.getElem_cons_zero, List.getElem_cons_succ, List.setIfInBounds_toArray, List.set_cons_zero, List.set_cons_succ]
  refine wpAnyH_ready (rs := [5]) (by kernel_rfl) (by simp) ?_
  refine AllReadyH.cons rfl (fun K hK => ?_) AllReadyH.nil
  try simp only [List.getElem_toArray, List.getElem_cons_zero, List.getElem_cons_succ]
  (go_simp; refine (c_impl_setOfTerms _ _ m.changes _ (M3.out.below (by repeat (first | (with_reducible exact Below.refl _ _) | (with_reducible assumption) | (with_reducible apply bbox) | ((with_reducible apply Below.setCell); (case hp => (first | exact Nat.le_refl _ | (simp; done) | (simp; omega) | (simp only; omega) | omega))) | (with_reducible apply Below.drew) | (with_reducible apply below_drewN))))).mono ?_; rintro e w4 ⟨rfl, hB4⟩; have hB2 := bgo hB' hB4; replace k0 := Blk.next (g := w.heap.size) (by repeat (first | (with_reducible assumption) | (with_reducible exact Blk.new _ _ _) | ((with_reducible apply Blk.far); (case hp => (first | exact Nat.le_refl _ | (simp; done) | (simp; omega) | (simp only; omega) | omega))) | (with_reducible apply Blk.set_) | ((with_reducible refine Blk.newE ?_); (simp; done)) | (with_reducible apply Blk.alloc) | (with_reducible apply Blk.drew) | (with_reducible apply Blk.drewN))) hB4; replace k1 := Blk.next (g := w.heap.size + 1) (by repeat (first | (with_reducible assumption) | (with_reducible exact Blk.new _ _ _) | ((with_reducible apply Blk.far); (case hp => (first | exact Nat.le_refl _ | (simp; done) | (simp; omega) | (simp only; omega) | omega))) | (with_reducible apply Blk.set_) | ((with_reducible refine Blk.newE ?_); (simp; done)) | (with_reducible apply Blk.alloc) | (with_reducible apply Blk.drew) | (with_reducible apply Blk.drewN))) hB4)
  refine hK.out _ _ (⟨Blk.cell (by repeat (first | (with_reducible assumption) | (with_reducible exact Blk.new _ _ _) | ((with_reducible apply Blk.far); (case hp => (first | exact Nat.le_refl _ | (simp; done) | (simp; omega) | (simp only; omega) | omega))) | (with_reducible apply Blk.set_) | ((with_reducible refine Blk.newE ?_); (simp; done)) | (with_reducible apply Blk.alloc) | (with_reducible apply Blk.drew) | (with_reducible apply Blk.drewN))), Blk.cell (by repeat (first | (with_reducible assumption) | (with_reducible exact Blk.new _ _ _) | ((with_reducible apply Blk.far); (case hp => (first | exact Nat.le_refl _ | (simp; done) | (simp; omega) | (simp only; omega) | omega))) | (with_reducible apply Blk.set_) | ((with_reducible refine Blk.newE ?_); (simp; done)) | (with_reducible apply Blk.alloc) | (with_reducible apply Blk.drew) | (with_reducible apply Blk.drewN)))⟩) (fun hHeldN => ?_)
  clear hHeld hK K
  have hHeld := hHeldN
  clear hHeldN
  try simp only [Act.put, List.getElem_toArray, List.getElem_cons_zero, List.getElem_cons_succ, List.setIfInBounds_toArray, List.set_cons_zero, List.set_cons_succ]
  clear hB3 hB4 hB' hB
  have hU := HUU.out
  refine wpAnyH_take (i := 6) (v := ?_) rfl (by kernel_rfl) (by kernel_rfl) (by kernel_rfl) (fun _ _ _ h => h) (Or.inl ⟨by rfl, fun w hSw => ?_⟩) hHeld ?_
  rotate_left
  · ((try dsimp only at hSw); go_split_ands; go_simp; (try with_reducible rfl))
  try simp only [Act.put, List.getElem_toArray, List.getElem_cons_zero, List.getElem_cons_succ, List.setIfInBounds_toArray, List.set_cons_zero, List.set_cons_succ]
  clear hU
  refine wpAnyH_take (i := 7) (v := ?_) rfl (by kernel_rfl) (by kernel_rfl) (by kernel_rfl) (fun _ _ _ h => h) (Or.inl ⟨by rfl, fun w hSw => ?_⟩) hHeld ?_
  rotate_left
  · ((try dsimp only at hSw); go_split_ands; go_simp; (try with_reducible rfl))
  try simp only [Act.put, List.getElem_toArray, List.getElem_cons_zero, List.getElem_cons_succ, List.setIfInBounds_toArray, List.set_cons_zero, List.set_cons_succ]
  refine wpAnyH_done (by kernel_rfl) ?_ _
  refine NoPanic.normal ?_
  (replace qk0 := k0.cell; replace rk0 := k0.frozen; replace lk0 := k0.lt; replace qk1 := k1.cell; replace rk1 := k1.frozen; replace lk1 := k1.lt)
  clear hHeld
  have HE : Hid ((((tset k.changes &&& (65535 - tset m.changes) : Nat) : Int) != 0) = !inB (tset m.changes) k.changes) := by
    show _ = _
    cases hd : inB (tset m.changes) k.changes
    · have : tset k.changes &&& (65535 - tset m.changes) ≠ 0 := fun e => by have := HI.out.1 e; rw [hd] at this; cases this
      simp only [Bool.not_false, bne_iff_ne, ne_eq]
      omega
    · have := HI.out.2 hd
      rw [this]; rfl
  rw [HE.out]
  clear HE HI HUU
  cases hd : inB (tset m.changes) k.changes
  · have E := Lib.hid (show refF k m = false by rw [HF.out, hd]; simp)
    clear hd
    go_wp2_with fail
    go_ret
    exact ⟨ret_bool E.out.symm, (by repeat (first | (with_reducible exact Below.refl _ _) | (with_reducible assumption) | (with_reducible apply bbox) | ((with_reducible apply Below.setCell); (case hp => (first | exact Nat.le_refl _ | (simp; done) | (simp; omega) | (simp only; omega) | omega))) | (with_reducible apply Below.drew) | (with_reducible apply below_drewN)))⟩
  have HD := Lib.hid hd
  have hz2 := hB2.size
  clear hd
  go_wp2_with fail
  refine (c_impl_Entails _ _ m.pre k.pre _ (M1.out.below hB2) (G1.out.below hB2) (by omega) (by omega)).mono ?_
  rintro e w5 ⟨rfl, hB5⟩
  replace hB2 := bgo hB2 hB5
  replace k0 := k0.next hB5
  replace k1 := k1.next hB5
  (replace qk0 := k0.cell; replace rk0 := k0.frozen; replace lk0 := k0.lt; replace qk1 := k1.cell; replace rk1 := k1.frozen; replace lk1 := k1.lt)
  clear hB5
  have hz3 := hB2.size
  cases he : entF m.pre k.pre
  · have E := Lib.hid (show refF k m = false by rw [HF.out, he]; simp)
    clear he
    go_wp2_with fail
    go_ret
    exact ⟨ret_bool E.out.symm, (by repeat (first | (with_reducible exact Below.refl _ _) | (with_reducible assumption) | (with_reducible apply bbox) | ((with_reducible apply Below.setCell); (case hp => (first | exact Nat.le_refl _ | (simp; done) | (simp; omega) | (simp only; omega) | omega))) | (with_reducible apply Below.drew) | (with_reducible apply below_drewN)))⟩
  have E := Lib.hid (show refF k m = entF k.post m.post by rw [HF.out, he, HK.out, HMV.out, HD.out]; simp)
  clear he
  go_wp2_with fail
  refine (c_impl_Entails _ _ k.post m.post _ (G2.out.below hB2) (M2.out.below hB2) (by omega) (by omega)).mono ?_
  rintro e w6 ⟨rfl, hB6⟩
  replace hB2 := bgo hB2 hB6
  clear hB6
  go_wp2_with fail
  go_ret
  exact ⟨ret_bool E.out.symm, (by repeat (first | (with_reducible exact Below.refl _ _) | (with_reducible assumption) | (with_reducible apply bbox) | ((with_reducible apply Below.setCell); (case hp => (first | exact Nat.le_refl _ | (simp; done) | (simp; omega) | (simp only; omega) | omega))) | (with_reducible apply Below.drew) | (with_reducible apply below_drewN)))⟩

--@ spec.Refines
set_option maxRecDepth 100000 in
set_option maxHeartbeats 6400000 in
theorem c_spec_Refines {lo hi lo' hi' : Nat} (v v' : Value) (k m : Ctr) (w : World) (h : CtrV w lo hi v k) (h' : CtrV w lo' hi' v' m) :
    Calls Try.prog 31 #[v, v'] w fun e w' => e = .returned (.bool (refF k m)) ∧ Below w.heap.size w w' := by
  have hV := Lib.hid h
  have hV' := Lib.hid h'
  obtain ⟨a1, a2, a3, a4, A5, c5, rfl, g1, g2, g3⟩ := h
  obtain ⟨b1, b2, b3, b4, B5, d5, rfl, m1, m2, m3⟩ := h'
  have G1 := Lib.hid g1
  have G2 := Lib.hid g2
  have G3 := Lib.hid g3
  have M1 := Lib.hid m1
  have M2 := Lib.hid m2
  have M3 := Lib.hid m3
  clear g1 g2 g3 m1 m2 m3
  have HF : Hid (refF k m = (k.valid && m.valid && (inB (tset m.changes) k.changes && entF m.pre k.pre && entF k.post m.post))) := rfl
  go_enter Try.func31, Try.ntmps31
  have k0 : Blk ((w.alloc (.cells #[a1, a2, a3, a4, .slice A5 k.changes.length c5] 44)).alloc (.cells #[b1, b2, b3, b4, .slice B5 m.changes.length d5] 44)) w.heap.size 44 #[a1, a2, a3, a4, .slice A5 k.changes.length c5] := (by repeat (first | (with_reducible assumption) | (with_reducible exact Blk.new _ _ _) | ((with_reducible apply Blk.far); (case hp => (first | exact Nat.le_refl _ | (simp; done) | (simp; omega) | (simp only; omega) | omega))) | (with_reducible apply Blk.set_) | ((with_reducible refine Blk.newE ?_); (simp; done)) | (with_reducible apply Blk.alloc) | (with_reducible apply Blk.drew) | (with_reducible apply Blk.drewN)))
  have k1 : Blk ((w.alloc (.cells #[a1, a2, a3, a4, .slice A5 k.changes.length c5] 44)).alloc (.cells #[b1, b2, b3, b4, .slice B5 m.changes.length d5] 44)) (w.heap.size + 1) 44 #[b1, b2, b3, b4, .slice B5 m.changes.length d5] := (by repeat (first | (with_reducible assumption) | (with_reducible exact Blk.new _ _ _) | ((with_reducible apply Blk.far); (case hp => (first | exact Nat.le_refl _ | (simp; done) | (simp; omega) | (simp only; omega) | omega))) | (with_reducible apply Blk.set_) | ((with_reducible refine Blk.newE ?_); (simp; done)) | (with_reducible apply Blk.alloc) | (with_reducible apply Blk.drew) | (with_reducible apply Blk.drewN)))
  go_wp2_with fail
  refine (c_spec_ContractValid _ k _ (hV.out.below (by repeat (first | (with_reducible exact Below.refl _ _) | (with_reducible assumption) | (with_reducible apply bbox) | ((with_reducible apply Below.setCell); (case hp => (first | exact Nat.le_refl _ | (simp; done) | (simp; omega) | (simp only; omega) | omega))) | (with_reducible apply Below.drew) | (with_reducible apply below_drewN))))).mono ?_
  rintro e w1 ⟨rfl, hB1⟩
  have hB := bgo (w := w) (by repeat (first | (with_reducible exact Below.refl _ _) | (with_reducible assumption) | (with_reducible apply bbox) | ((with_reducible apply Below.setCell); (case hp => (first | exact Nat.le_refl _ | (simp; done) | (simp; omega) | (simp only; omega) | omega))) | (with_reducible apply Below.drew) | (with_reducible apply below_drewN))) hB1
  replace k0 := k0.next hB1
  replace k1 := k1.next hB1
  (replace qk0 := k0.cell; replace rk0 := k0.frozen; replace lk0 := k0.lt; replace qk1 := k1.cell; replace rk1 := k1.frozen; replace lk1 := k1.lt)
  clear hB1
  cases hk : k.valid
  · have E := Lib.hid (show refF k m = false by rw [HF.out, hk]; rfl)
    clear hk
    go_wp2_with fail
    go_ret
    exact ⟨ret_bool E.out.symm, (by repeat (first | (with_reducible exact Below.refl _ _) | (with_reducible assumption) | (with_reducible apply bbox) | ((with_reducible apply Below.setCell); (case hp => (first | exact Nat.le_refl _ | (simp; done) | (simp; omega) | (simp only; omega) | omega))) | (with_reducible apply Below.drew) | (with_reducible apply below_drewN)))⟩
  have HK := Lib.hid hk
  have HX := Lib.hid (show ∀ x ∈ k.changes, isTermB x = true by have := hk; simp only [Ctr.valid, Bool.and_eq_true] at this; exact changes_terms this.2)
  clear hk
  go_wp2_with fail
  refine (c_spec_ContractValid _ m _ (hV'.out.below hB)).mono ?_
  rintro e w2 ⟨rfl, hB2⟩
  replace hB := bgo hB hB2
  replace k0 := k0.next hB2
  replace k1 := k1.next hB2
  (replace qk0 := k0.cell; replace rk0 := k0.frozen; replace lk0 := k0.lt; replace qk1 := k1.cell; replace rk1 := k1.frozen; replace lk1 := k1.lt)
  clear hB2
  cases hm : m.valid
  · have E := Lib.hid (show refF k m = false by rw [HF.out, HK.out, hm]; rfl)
    clear hm
    go_wp2_with fail
    go_ret
    exact ⟨ret_bool E.out.symm, (by repeat (first | (with_reducible exact Below.refl _ _) | (with_reducible assumption) | (with_reducible apply bbox) | ((with_reducible apply Below.setCell); (case hp => (first | exact Nat.le_refl _ | (simp; done) | (simp; omega) | (simp only; omega) | omega))) | (with_reducible apply Below.drew) | (with_reducible apply below_drewN)))⟩
  have HMV := Lib.hid hm
  clear hm
  go_wp2_with fail
  refine (c_spec_Entails _ _ m.pre k.pre _ (M1.out.below hB) (G1.out.below hB)).mono ?_
  rintro e w5 ⟨rfl, hB5⟩
  replace hB := bgo hB hB5
  replace k0 := k0.next hB5
  replace k1 := k1.next hB5
  (replace qk0 := k0.cell; replace rk0 := k0.frozen; replace lk0 := k0.lt; replace qk1 := k1.cell; replace rk1 := k1.frozen; replace lk1 := k1.lt)
  clear hB5
  cases he : entF m.pre k.pre
  · have E := Lib.hid (show refF k m = false by rw [HF.out, he]; simp)
    clear he
    go_wp2_with fail
    go_ret
    exact ⟨ret_bool E.out.symm, (by repeat (first | (with_reducible exact Below.refl _ _) | (with_reducible assumption) | (with_reducible apply bbox) | ((with_reducible apply Below.setCell); (case hp => (first | exact Nat.le_refl _ | (simp; done) | (simp; omega) | (simp only; omega) | omega))) | (with_reducible apply Below.drew) | (with_reducible apply below_drewN)))⟩
  have HE := Lib.hid he
  clear he
  go_wp2_with fail
  refine (c_spec_Entails _ _ k.post m.post _ (G2.out.below hB) (M2.out.below hB)).mono ?_
  rintro e w6 ⟨rfl, hB6⟩
  replace hB := bgo hB hB6
  replace k0 := k0.next hB6
  replace k1 := k1.next hB6
  (replace qk0 := k0.cell; replace rk0 := k0.frozen; replace lk0 := k0.lt; replace qk1 := k1.cell; replace rk1 := k1.frozen; replace lk1 := k1.lt)
  clear hB6
  cases hg : entF k.post m.post
  · have E := Lib.hid (show refF k m = false by rw [HF.out, hg]; simp)
    clear hg
    go_wp2_with fail
    go_ret
    exact ⟨ret_bool E.out.symm, (by repeat (first | (with_reducible exact Below.refl _ _) | (with_reducible assumption) | (with_reducible apply bbox) | ((with_reducible apply Below.setCell); (case hp => (first | exact Nat.le_refl _ | (simp; done) | (simp; omega) | (simp only; omega) | omega))) | (with_reducible apply Below.drew) | (with_reducible apply below_drewN)))⟩
  have E := Lib.hid (show refF k m = inB (tset m.changes) k.changes by rw [HF.out, HE.out, HK.out, HMV.out, hg]; simp)
  clear hg
  go_wp2_with fail
  refine (c_spec_l12Within _ _ _ _ k.changes m.changes _ (G3.out.below hB) (M3.out.below hB) HX.out).mono ?_
  rintro e w7 ⟨rfl, hB7⟩
  replace hB := bgo hB hB7
  clear hB7
  go_wp2_with fail
  go_ret
  exact ⟨ret_bool E.out.symm, (by repeat (first | (with_reducible exact Below.refl _ _) | (with_reducible assumption) | (with_reducible apply bbox) | ((with_reducible apply Below.setCell); (case hp => (first | exact Nat.le_refl _ | (simp; done) | (simp; omega) | (simp only; omega) | omega))) | (with_reducible apply Below.drew) | (with_reducible apply below_drewN)))⟩
end Go.Proofs.Ytkiogmimolnkgaa
