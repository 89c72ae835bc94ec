/- What the reader draws: a state in which an assertion often holds. -/
import Derived.Test.YtmjgcdolnkdfoaaDrawV
import Derived.Test.YtmjgcdolnkdfoaaDrawC
import Derived.Test.YtmjgcdolnkdfoaaSte
set_option linter.unusedSimpArgs false
set_option linter.unusedVariables false
namespace Go.Proofs.Ytmjgcdolnkdfoaa
open Go Go.RowKit Go.Proofs
attribute [local go_sem ↓] Go.wp_at_zero Go.wp_at_succ

--@ spec.l4Build
theorem IntsO.notBlk {w : World} {b x : Nat} {v : Value} {xs : List Int} {t : TypeId} {cs : Array Value} (h : IntsO w b v xs) (hk : Blk w x t cs) (ht : t ≠ tI) : ¬ v.ownBlock = some x := by
  intro e
  rcases h.1.2 with ⟨rfl, -⟩ | ⟨k, cap, cur, rfl, -, hh, -⟩
  · simp [Value.ownBlock] at e
  · simp only [Value.ownBlock, Option.some.injEq] at e
    subst e
    exact Blk.ne_ hk (show Blk w k tI cur from hh) ht rfl
theorem Fr.mkq {g : Nat} {a b c : World} {q : Nat → Prop} (h : Fr g a b) (hm : Mk q b c) (hq : ∀ k, q k → a.heap.size ≤ k) : Fr g a c :=
  ⟨hm.os.trans h.os, hm.tape.trans h.tape, hm.output.trans h.output, Nat.le_trans h.size hm.size, fun k h1 h2 => (hm.block k (by have := h.size; omega) (fun hp => by have := hq k hp; omega)).trans (h.block k h1 h2)⟩
theorem Rdr.mkq {g p : Nat} {a b : World} {q : Nat → Prop} (h : Rdr a g p) (hm : Mk q a b) (hq : ∀ k, q k → g < k) : Rdr b g p :=
  h.belowB (hm.below (lo := g + 1) (fun k hk => hq k hk) h.lt) (Nat.lt_succ_self g)
theorem AsnV.frl {g lo hi : Nat} {a b : World} {v : Value} {x : Asn} (h : AsnV a lo hi v x) (hf : Fr g a b) (hg : g < lo) : AsnV b lo hi v x := by
  obtain ⟨A1, c1, A2, c2, e, h1, h2⟩ := h
  exact ⟨A1, c1, A2, c2, e, Rd.fr h1 hf (Or.inl hg), Rd.fr h2 hf (Or.inl hg)⟩
theorem facts_ok {a : Asn} (h : a.valid = true) : ∀ f ∈ a.facts, (0 ≤ f.a ∧ f.a ≤ 8) ∧ (0 ≤ f.b ∧ f.b ≤ 8) := fun f hf => by
  simp only [Asn.valid, factsValid, Bool.and_eq_true] at h
  have := List.all_eq_true.1 h.1.2 f hf
  simp only [Fct.valid, Bool.and_eq_true] at this
  exact ⟨isTermB_iff.1 this.1, isTermB_iff.1 this.2⟩
theorem atoms_ok {a : Asn} (h : a.valid = true) : ∀ x ∈ a.atoms, (0 ≤ x.a ∧ x.a ≤ 8) ∧ (0 ≤ x.b ∧ x.b ≤ 8) := fun x hx => by
  simp only [Asn.valid, Bool.and_eq_true] at h
  have := List.all_eq_true.1 h.2.2 x hx
  simp only [Atm.valid, Bool.and_eq_true] at this
  exact ⟨isTermB_iff.1 this.1.2, isTermB_iff.1 this.2⟩
theorem tval_ok {vs : List Int} (hv : vs.all valB = true) (t : Int) : 0 ≤ tval vs t ∧ tval vs t ≤ 8 := tval_le hv t
theorem setV_len (vs : List Int) (t : Nat) (n : Int) : (setV vs t n).length = vs.length := by
  unfold setV; split <;> simp
theorem setV_ok {vs : List Int} (hv : vs.all valB = true) (t : Nat) {n : Int} (hn : valB n = true) : (setV vs t n).all valB = true := by
  unfold setV
  split
  · exact hv
  · rw [List.all_eq_true]
    intro x hx
    rcases List.mem_or_eq_of_mem_set hx with h | h
    · exact List.all_eq_true.1 hv x h
    · rw [h]; exact hn
set_option maxRecDepth 100000 in
set_option maxHeartbeats 6400000 in
theorem c_l4Build {lo hi : Nat} (g p : Nat) (v : Value) (a : Asn) (w : World) (h : Rdr w g p) (hp : p ≤ 999900) (ha : AsnV w lo hi v a) (hv : a.valid = true) (hg : g < lo) :
    Calls Try.prog 247 #[.pointer (some ⟨g, 0, none⟩), v] w fun e w' => ∃ r s q, e = .returned r ∧ StateO w' w.heap.size r s ∧ s.values.length ≤ 900 ∧ s.heap.length ≤ 900 ∧ Rdr w' g q ∧ q ≤ p + 40 ∧ Fr g w w' := by
  have H := Lib.hid h
  have hlt := h.lt
  have HV := Lib.hid hv
  have HLEN := Lib.hid (valid_len hv)
  obtain ⟨A1, c1, A2, c2, rfl, h1, h2⟩ := ha
  have H1 := Lib.hid h1
  have H2 := Lib.hid h2
  clear h hv h1 h2
  go_enter Try.func247, Try.ntmps247
  have k0 : Blk ((w.alloc (.cells #[.slice A1 a.facts.length c1, .slice A2 a.atoms.length c2] 26)).alloc (.cells #[.slice none 0 0, .slice none 0 0] tSt)) w.heap.size 26 #[.slice A1 a.facts.length c1, .slice A2 a.atoms.length c2] := blks
  have kr : Blk ((w.alloc (.cells #[.slice A1 a.facts.length c1, .slice A2 a.atoms.length c2] 26)).alloc (.cells #[.slice none 0 0, .slice none 0 0] tSt)) (w.heap.size + 1) tSt #[.slice none 0 0, .slice none 0 0] := blks
  go_wp2_with fail
  refine (c_l2Blank _).mono ?_
  rintro e w1 ⟨r1, rfl, o1, hB1⟩
  have hB := bgo (w := w) bel hB1
  replace k0 := k0.next hB1
  replace kr := kr.next hB1
  replace o1 := o1.lower (base' := w.heap.size) (by simp; omega)
  have hsz1 := hB.size
  obtain ⟨fv, av, rfl, ov, oh, dj⟩ := o1
  obtain ⟨V, c, rfl, -⟩ := ov.reads
  obtain ⟨B, d, rfl, -⟩ := oh.reads
  simp only [blankS, List.length_replicate] at dj ov oh ⊢
  have DJ := Lib.hid dj
  clear dj
  have kx : Blk (w1.alloc (.cells #[.slice V 8 c, .slice B 8 d] tSt)) w1.heap.size tSt #[.slice V 8 c, .slice B 8 d] := Blk.new _ _ _
  have HF1 : Hid (Fr g w (w1.alloc (.cells #[.slice V 8 c, .slice B 8 d] tSt))) := (Fr.ofBelow hB).alloc _
  have HR1 : Hid (Rdr (w1.alloc (.cells #[.slice V 8 c, .slice B 8 d] tSt)) g p) := (H.out.below hB).below (bbox (Below.refl _ _) _)
  have ov1 := ov.below (bbox (Below.refl _ _) (.cells #[.slice V 8 c, .slice B 8 d] tSt))
  have oh1 := oh.below (bbox (Below.refl _ _) (.cells #[.slice V 8 c, .slice B 8 d] tSt))
  replace k0 := k0.alloc (.cells #[.slice V 8 c, .slice B 8 d] tSt)
  replace kr := kr.alloc (.cells #[.slice V 8 c, .slice B 8 d] tSt)
  have lr : w.heap.size + 1 < w1.heap.size := by have := hB1.size; simp at this; omega
  clear hB1 hB ov oh H
  have hne1 : w1.heap.size ≠ w.heap.size + 1 := by omega
  go_wp2_with fail
  go_loopw [7] (fun i wr => ∃ (k : Nat) (vs : List Int) (q : Nat), k ≤ 8 ∧ i = .int .i64 ((k : Int) + 1) ∧ Hid (vs.length = 8 ∧ vs.all valB = true) ∧ IntsO wr w.heap.size (.slice V 8 c) vs ∧ IntsO wr w.heap.size (.slice B 8 d) (List.replicate 8 (-1)) ∧ Blk wr w.heap.size 26 #[.slice A1 a.facts.length c1, .slice A2 a.atoms.length c2] ∧ Blk wr (w.heap.size + 1) tSt #[.slice none 0 0, .slice none 0 0] ∧ Blk wr w1.heap.size tSt #[.slice V 8 c, .slice B 8 d] ∧ Hid (Rdr wr g q) ∧ q ≤ p + 2 * k ∧ Hid (Fr g w wr)) (fun i _ => 10 - (intOf i).toNat)
  case atStart => exact ⟨0, List.replicate 8 0, p, by omega, rfl, ⟨by simp, by decide⟩, ov1, oh1, k0, kr, kx, HR1.out, by omega, HF1.out⟩
  case round =>
    clear k0 kr kx HF1 HR1 ov1 oh1
    obtain ⟨k, vs, q, hk, rfl, HVS, hO, hP, k0, kr, kx, HR, hq, HF⟩ := hrel
    have HO := Lib.hid hO
    have HP := Lib.hid hP
    have hsz := HF.out.size
    clear hO hP
    by_cases hlt8 : k < 8
    · have hki : (k : Int) + 1 ≤ 8 := by omega
      go_wp2_with fail
      refine wp_region_noPanic ?_
      refine wp_region_last' (S := (fun w' => ∀ i, w'.cell? ⟨w1.heap.size, i, none⟩ = #[.slice V 8 c, .slice B 8 d][i]?)) (by simp) (by kernel_rfl) (by kernel_rfl) (Blk.cell blks) (fun hHeld => ?_)
      simp only [List.dropLast, List.getLast, nopOf, List.cons_append, List.nil_append, List.length_cons, List.length_nil, Nat.zero_add, Nat.reduceAdd]
      refine wpAnyH_take (i := 0) (v := ?_) rfl (by kernel_rfl) (by kernel_rfl) (by kernel_rfl) (fun _ _ _ h => h) (Or.inl ⟨by rfl, fun w hSw => ?_⟩) hHeld ?_
      rotate_left
      · ((try dsimp only at hSw); go_split_ands; go_simp; (try with_reducible rfl))
      try simp only [Act.put, List.getElem_toArray, List.getElem_cons_zero, List.getElem_cons_succ, List.setIfInBounds_toArray, List.set_cons_zero, List.set_cons_succ]
      refine wpAnyH_take (i := 1) (v := ?_) rfl (by kernel_rfl) (by kernel_rfl) (by kernel_rfl) (fun _ _ _ h => h) (Or.inl ⟨by rfl, fun w hSw => ?_⟩) hHeld ?_
      rotate_left
      · ((try dsimp only at hSw); go_split_ands; go_simp; (try with_reducible rfl))
      try simp only [Act.put, List.getElem_toArray, List.getElem_cons_zero, List.getElem_cons_succ, List.setIfInBounds_toArray, List.set_cons_zero, List.set_cons_succ]
      refine wpAnyH_take (i := 2) (v := ?_) rfl (by kernel_rfl) (by kernel_rfl) (by kernel_rfl) (fun _ _ _ h => h) (Or.inl ⟨by rfl, fun w hSw => ?_⟩) hHeld ?_
      rotate_left
      · ((try dsimp only at hSw); go_split_ands; go_simp; (try with_reducible rfl))
      try simp only [Act.put, List.getElem_toArray, List.getElem_cons_zero, List.getElem_cons_succ, List.setIfInBounds_toArray, List.set_cons_zero, List.set_cons_succ]
      refine wpAnyH_take (i := 3) (v := ?_) rfl (by kernel_rfl) (by kernel_rfl) (by kernel_rfl) (fun _ _ _ h => h) (Or.inl ⟨by rfl, fun w hSw => ?_⟩) hHeld ?_
      rotate_left
      · ((try dsimp only at hSw); go_split_ands; go_simp; (try with_reducible rfl))
      try simp only [Act.put, List.getElem_toArray, List.getElem_cons_zero, List.getElem_cons_succ, List.setIfInBounds_toArray, List.set_cons_zero, List.set_cons_succ]
      refine wpAnyH_take (i := 4) (v := ?_) rfl (by kernel_rfl) (by kernel_rfl) (by kernel_rfl) (fun _ _ _ h => h) (Or.inl ⟨by rfl, fun w hSw => ?_⟩) hHeld ?_
      rotate_left
      · ((try dsimp only at hSw); go_split_ands; go_simp; (try with_reducible rfl))
      try simp only [Act.put, List.getElem_toArray, List.getElem_cons_zero, List.getElem_cons_succ, List.setIfInBounds_toArray, List.set_cons_zero, List.set_cons_succ]
      refine wpAnyH_take (i := 5) (v := ?_) rfl (by kernel_rfl) (by kernel_rfl) (by kernel_rfl) (fun _ _ _ h => h) (Or.inl ⟨by rfl, fun w hSw => ?_⟩) hHeld ?_
      rotate_left
      · ((try dsimp only at hSw); go_split_ands; go_simp; (try with_reducible rfl))
      try simp only [Act.put, List.getElem_toArray, List.getElem_cons_zero, List.getElem_cons_succ, List.setIfInBounds_toArray, List.set_cons_zero, List.set_cons_succ]
      refine wpAnyH_ready (rs := [6]) (by kernel_rfl) (by simp) ?_
      refine AllReadyH.cons rfl (fun K hK => ?_) AllReadyH.nil
      try simp only [List.getElem_toArray, List.getElem_cons_zero, List.getElem_cons_succ]
      (go_simp; refine (c_pick g q 5 _ (HR.out.below bel) (by omega)).mono ?_; rintro e w2 ⟨m, rfl, hm, hR2, hF2⟩; have HF2 := Lib.hid ((HF.out.drew).trans hF2); have kx2 := kx.drew.fr hF2 (by omega); have k02 := k0.drew.fr hF2 (by omega); have kr2 := kr.drew.fr hF2 (by omega); have HO2 := Lib.hid ((HO.out.below (Below.drew (Below.refl _ _))).fr hF2 hlt); have HP2 := Lib.hid ((HP.out.below (Below.drew (Below.refl _ _))).fr hF2 hlt); have hm5 : (m : Int) ≤ 5 := by omega)
      refine hK.out _ _ (kx2.cell) (fun hHeldN => ?_)
      clear hHeld hK K
      have hHeld := hHeldN
      clear hHeldN
      try simp only [Act.put, List.getElem_toArray, List.getElem_cons_zero, List.getElem_cons_succ, List.setIfInBounds_toArray, List.set_cons_zero, List.set_cons_succ]
      refine wpAnyH_take (i := 7) (v := ?_) rfl (by kernel_rfl) (by kernel_rfl) (by kernel_rfl) (fun _ _ _ h => h) (Or.inl ⟨by rfl, fun w hSw => ?_⟩) hHeld ?_
      rotate_left
      · ((try dsimp only at hSw); go_split_ands; go_simp; (try with_reducible rfl))
      try simp only [Act.put, List.getElem_toArray, List.getElem_cons_zero, List.getElem_cons_succ, List.setIfInBounds_toArray, List.set_cons_zero, List.set_cons_succ]
      refine wpAnyH_ready (rs := [8]) (by kernel_rfl) (by simp) ?_
      refine AllReadyH.cons rfl (fun K hK => ?_) AllReadyH.nil
      try simp only [List.getElem_toArray, List.getElem_cons_zero, List.getElem_cons_succ]
      go_simp
      refine hK.out _ _ (Blk.cell blks) (fun hHeldN => ?_)
      clear hHeld hK K
      have hHeld := hHeldN
      clear hHeldN
      try simp only [Act.put, List.getElem_toArray, List.getElem_cons_zero, List.getElem_cons_succ, List.setIfInBounds_toArray, List.set_cons_zero, List.set_cons_succ]
      refine wpAnyH_ready (rs := [9]) (by kernel_rfl) (by simp) ?_
      refine AllReadyH.cons rfl (fun K hK => ?_) AllReadyH.nil
      try simp only [List.getElem_toArray, List.getElem_cons_zero, List.getElem_cons_succ]
      (go_simp; refine (c_numL g (q + 1) [0, (k : Int) + 1, (k : Int) + 1, IntKind.i64.wrap (1 + (m : Int))] _ _ _ _ (hR2.below bel) (by omega) (Blk.new _ _ _) (by rfl) (by have := hR2.lt; omega) (by rfl) (by simp) (by simp)).mono ?_; rintro e w3 ⟨u, hu, rfl, hR3, hF3⟩; have HF3 := Lib.hid ((HF2.out.alloc _).trans hF3); have kx3 := (kx2.alloc _).fr hF3 (by omega); have k03 := (k02.alloc _).fr hF3 (by omega); have kr3 := (kr2.alloc _).fr hF3 (by omega); have HO3 := Lib.hid ((HO2.out.below (bbox (Below.refl _ _) _)).fr hF3 hlt); have HP3 := Lib.hid ((HP2.out.below (bbox (Below.refl _ _) _)).fr hF3 hlt))
      refine hK.out _ _ (kx3.cell) (fun hHeldN => ?_)
      clear hHeld hK K
      have hHeld := hHeldN
      clear hHeldN
      try simp only [Act.put, List.getElem_toArray, List.getElem_cons_zero, List.getElem_cons_succ, List.setIfInBounds_toArray, List.set_cons_zero, List.set_cons_succ]
      have HU : Hid (valB u = true) := by
        have hw : IntKind.i64.wrap (1 + (m : Int)) = 1 + (m : Int) := by simp [IntKind.wrap, IntKind.bits, IntKind.signed]; omega
        rw [hw] at hu
        simp only [List.mem_cons, List.not_mem_nil, or_false] at hu
        show valB u = true
        simp only [valB, decide_eq_true_eq]
        omega
      clear hu hm hm5 hF2 hF3 hR2 HO2 HP2 HF2 kx2 k02 kr2 HR HF HO HP kx k0 kr
      refine wpAnyH_ready (rs := [10]) (by kernel_rfl) (by simp) ?_
      refine AllReadyH.cons rfl (fun K hK => ?_) AllReadyH.nil
      try simp only [List.getElem_toArray, List.getElem_cons_zero, List.getElem_cons_succ]
      (go_simp; refine (c_l4Value (.slice V 8 c) (.slice B 8 d) ⟨vs, List.replicate 8 (-1)⟩ (k + 1) u _ ⟨_, _, rfl, HO3.out, HP3.out, DJ.out⟩ HVS.out.1 (by omega)).mono ?_; rintro e w4 ⟨rfl, oS, hM⟩; obtain ⟨fv, av, e4, ov4, oh4, -⟩ := oS; injection e4 with e4; injection e4 with e4; injection e4 with e5 e6; injection e6 with e6; subst e5 e6; have nx := HO3.out.notBlk kx3 (by decide); have n0 := HO3.out.notBlk k03 (by decide); have nr := HO3.out.notBlk kr3 (by decide); have kx4 := hM.blk kx3 nx; have qx4 := kx4.cell; have rx4 := kx4.frozen; have k04 := hM.blk k03 n0; have kr4 := hM.blk kr3 nr; have hge : ∀ j, (Value.slice V 8 c).ownBlock = some j → w.heap.size ≤ j := fun j hj => (HO3.out.1.lt j hj).1; have HF4 := Lib.hid (HF3.out.mkq hM hge); have HR4 := Lib.hid (Rdr.mkq hR3 hM (fun j hj => by have := hge j hj; omega)))
      refine hK.out _ _ (kx4.cell) (fun hHeldN => ?_)
      clear hHeld hK K
      have hHeld := hHeldN
      clear hHeldN
      try simp only [Act.put, List.getElem_toArray, List.getElem_cons_zero, List.getElem_cons_succ, List.setIfInBounds_toArray, List.set_cons_zero, List.set_cons_succ]
      refine wpAnyH_ready (rs := [11]) (by kernel_rfl) (by simp) ?_
      refine AllReadyH.cons rfl (fun K hK => ?_) AllReadyH.nil
      go_simp
      refine hK.out _ _ (kx4.cell) (fun hHeld => ?_)
      clear hK K
      refine wpAnyH_done (by kernel_rfl) ?_ _
      unfold lastQ
      go_simp
      refine NoPanic.normal ?_
      have HO4 := Lib.hid ov4
      have HP4 := Lib.hid oh4
      clear ov4 oh4 hM nx n0 nr hge HO3 HP3 HF3 hR3 kx3 k03 kr3
      go_wp2_with fail
      go_round
      case rel =>
        refine ⟨k + 1, setV vs (k + 1) u, q + 1 + 1, by omega, by go_num, ⟨by rw [setV_len]; exact HVS.out.1, setV_ok HVS.out.2 _ HU.out⟩, ?_, ?_, (k04.far (p := ⟨w1.heap.size, 0, none⟩) (by simp only; omega) _).far (p := ⟨w1.heap.size, 1, none⟩) (by simp only; omega) _, (kr4.far (p := ⟨w1.heap.size, 0, none⟩) (by simp only; omega) _).far (p := ⟨w1.heap.size, 1, none⟩) (by simp only; omega) _, by simpa using (kx4.set_ 0 (.slice V 8 c)).set_ 1 (.slice B 8 d), (HR4.out.set_ (q := ⟨w1.heap.size, 0, none⟩) (by simp only; omega) _).set_ (q := ⟨w1.heap.size, 1, none⟩) (by simp only; omega) _, by omega, (HF4.out.set_ (p := ⟨w1.heap.size, 0, none⟩) (Or.inr (by simp only; omega)) _).set_ (p := ⟨w1.heap.size, 1, none⟩) (Or.inr (by simp only; omega)) _⟩
        · exact (HO4.out.setT kx4 (by decide) 0 _).setT (kx4.set_ 0 _) (by decide) 1 _
        · exact (HP4.out.setT kx4 (by decide) 0 _).setT (kx4.set_ 0 _) (by decide) 1 _
      case measure => simp [intOf]; omega
    · obtain rfl : k = 8 := by omega
      clear hlt8 hk
      go_wp2_with fail
      go_loopw [8] (fun i wr => ∃ (k : Nat) (vs hs : List Int), k ≤ a.facts.length ∧ i = .int .i64 k ∧ Hid (vs.length = 8 ∧ vs.all valB = true ∧ hs.length = 8) ∧ IntsO wr w.heap.size (.slice V 8 c) vs ∧ IntsO wr w.heap.size (.slice B 8 d) hs ∧ Blk wr w.heap.size 26 #[.slice A1 a.facts.length c1, .slice A2 a.atoms.length c2] ∧ Blk wr (w.heap.size + 1) tSt #[.slice none 0 0, .slice none 0 0] ∧ Blk wr w1.heap.size tSt #[.slice V 8 c, .slice B 8 d] ∧ ∃ q : Nat, Hid (Rdr wr g q) ∧ q ≤ p + 16 ∧ Hid (Fr g w wr)) (fun i _ => a.facts.length - (intOf i).toNat)
      case atStart => exact ⟨0, vs, List.replicate 8 (-1), Nat.zero_le _, rfl, ⟨HVS.out.1, HVS.out.2, by simp⟩, HO.out, HP.out, k0, kr, kx, q, HR.out, hq, HF.out⟩
      case round =>
        clear k0 kr kx HR HF HO HP HVS hsz hq
        clear vs q
        obtain ⟨k, vs, hs, hk, rfl, HVS, hO, hP, k0, kr, kx, q, HR, hq, HF⟩ := hrel
        have HO := Lib.hid hO
        have HP := Lib.hid hP
        have hsz := HF.out.size
        clear hO hP
        (replace qk0 := k0.cell; replace rk0 := k0.frozen; replace lk0 := k0.lt; replace qkx := kx.cell; replace rkx := kx.frozen; replace lkx := kx.lt)
        have hflen := HLEN.out.1
        by_cases hltf : k < a.facts.length
        · have HX : Hid (FactsV wr lo hi A1 a.facts) := Rd.fr H1.out HF.out (Or.inl hg)
          obtain ⟨b, off, rfl, hbl⟩ := HX.out.blt hltf
          have hfa : Hid (0 ≤ a.facts[k].a ∧ a.facts[k].a ≤ 8 ∧ 0 ≤ a.facts[k].b ∧ a.facts[k].b ≤ 8) := by
            have := facts_ok HV.out a.facts[k] (List.getElem_mem hltf)
            exact ⟨this.1.1, this.1.2, this.2.1, this.2.2⟩
          obtain ⟨g0, g1, g2⟩ := HX.out.cl hltf
          have hki : (k : Int) < (a.facts.length : Int) := by omega
          obtain ⟨f, hf⟩ : ∃ f, f = a.facts[k] := ⟨_, rfl⟩
          rw [← hf] at g0 g1 g2 hfa
          have HFK := Lib.hid hf
          clear hf
          obtain ⟨fe, fa, fb⟩ := f
          simp only at g0 g1 g2 hfa
          obtain ⟨ta, rfl⟩ := Int.eq_ofNat_of_zero_le hfa.out.1
          cases fe
          · go_wp2_with fail
            go_round
            case rel => exact ⟨k + 1, vs, hs, by omega, by go_num, HVS, HO.out, HP.out, k0, kr, kx, q, HR.out, hq, HF.out⟩
            case measure => simp [intOf]; omega
          · have hLV := c_spec_l1Value V c vs fb wr.drew ((HO.out.readsI).2.below (Below.drew (Below.refl _ _))) hfa.out.2.2.1 (by rw [HVS.out.1]; exact hfa.out.2.2.2)
            rw [HVS.out.1] at hLV
            have HLV := Lib.hid hLV
            have HY := Lib.hid (tval_ok HVS.out.2.1 fb)
            clear hLV
            go_wp2_with fail
            refine wp_region_noPanic ?_
            refine wp_region_last' (S := (fun w' => (∀ i, w'.cell? ⟨w1.heap.size, i, none⟩ = #[.slice V 8 c, .slice B 8 d][i]?) ∧ (∀ i, w'.cell? ⟨w.heap.size, i, none⟩ = #[.slice (some ⟨b, off, none⟩) a.facts.length c1, .slice A2 a.atoms.length c2][i]?) ∧ w'.cell? ⟨b, off + k * 3, none⟩ = some (.bool true) ∧ w'.cell? ⟨b, off + k * 3 + 1, none⟩ = some (.int .i64 ta) ∧ w'.cell? ⟨b, off + k * 3 + 2, none⟩ = some (.int .i64 fb))) (by simp) (by kernel_rfl) (by kernel_rfl) (⟨Blk.cell blks, Blk.cell blks, g0, g1, g2⟩) (fun hHeld => ?_)
            simp only [List.dropLast, List.getLast, nopOf, List.cons_append, List.nil_append, List.length_cons, List.length_nil, Nat.zero_add, Nat.reduceAdd]
            refine wpAnyH_take (i := 0) (v := ?_) rfl (by kernel_rfl) (by kernel_rfl) (by kernel_rfl) (fun _ _ _ h => h) (Or.inl ⟨by rfl, fun w hSw => ?_⟩) hHeld ?_
            rotate_left
            · ((try dsimp only at hSw); go_split_ands; go_simp; (try with_reducible rfl))
            try simp only [Act.put, List.getElem_toArray, List.getElem_cons_zero, List.getElem_cons_succ, List.setIfInBounds_toArray, List.set_cons_zero, List.set_cons_succ]
            refine wpAnyH_take (i := 1) (v := ?_) rfl (by kernel_rfl) (by kernel_rfl) (by kernel_rfl) (fun _ _ _ h => h) (Or.inl ⟨by rfl, fun w hSw => ?_⟩) hHeld ?_
            rotate_left
            · ((try dsimp only at hSw); go_split_ands; go_simp; (try with_reducible rfl))
            try simp only [Act.put, List.getElem_toArray, List.getElem_cons_zero, List.getElem_cons_succ, List.setIfInBounds_toArray, List.set_cons_zero, List.set_cons_succ]
            refine wpAnyH_take (i := 2) (v := ?_) rfl (by kernel_rfl) (by kernel_rfl) (by kernel_rfl) (fun _ _ _ h => h) (Or.inl ⟨by rfl, fun w hSw => ?_⟩) hHeld ?_
            rotate_left
            · ((try dsimp only at hSw); go_split_ands; go_simp; (try with_reducible rfl))
            try simp only [Act.put, List.getElem_toArray, List.getElem_cons_zero, List.getElem_cons_succ, List.setIfInBounds_toArray, List.set_cons_zero, List.set_cons_succ]
            refine wpAnyH_take (i := 3) (v := ?_) rfl (by kernel_rfl) (by kernel_rfl) (by kernel_rfl) (fun _ _ _ h => h) (Or.inl ⟨by rfl, fun w hSw => ?_⟩) hHeld ?_
            rotate_left
            · ((try dsimp only at hSw); go_split_ands; go_simp; (try with_reducible rfl))
            try simp only [Act.put, List.getElem_toArray, List.getElem_cons_zero, List.getElem_cons_succ, List.setIfInBounds_toArray, List.set_cons_zero, List.set_cons_succ]
            refine wpAnyH_take (i := 4) (v := ?_) rfl (by kernel_rfl) (by kernel_rfl) (by kernel_rfl) (fun _ _ _ h => h) (Or.inl ⟨by rfl, fun w hSw => ?_⟩) hHeld ?_
            rotate_left
            · ((try dsimp only at hSw); go_split_ands; go_simp; (try with_reducible rfl))
            try simp only [Act.put, List.getElem_toArray, List.getElem_cons_zero, List.getElem_cons_succ, List.setIfInBounds_toArray, List.set_cons_zero, List.set_cons_succ]
            refine wpAnyH_take (i := 5) (v := ?_) rfl (by kernel_rfl) (by kernel_rfl) (by kernel_rfl) (fun _ _ _ h => h) (Or.inl ⟨by rfl, fun w hSw => ?_⟩) hHeld ?_
            rotate_left
            · ((try dsimp only at hSw); go_split_ands; go_simp; (try with_reducible rfl))
            try simp only [Act.put, List.getElem_toArray, List.getElem_cons_zero, List.getElem_cons_succ, List.setIfInBounds_toArray, List.set_cons_zero, List.set_cons_succ]
            refine wpAnyH_take (i := 6) (v := ?_) rfl (by kernel_rfl) (by kernel_rfl) (by kernel_rfl) (fun _ _ _ h => h) (Or.inl ⟨by rfl, fun w hSw => ?_⟩) hHeld ?_
            rotate_left
            · ((try dsimp only at hSw); go_split_ands; go_simp; (try with_reducible rfl))
            try simp only [Act.put, List.getElem_toArray, List.getElem_cons_zero, List.getElem_cons_succ, List.setIfInBounds_toArray, List.set_cons_zero, List.set_cons_succ]
            refine wpAnyH_take (i := 7) (v := ?_) rfl (by kernel_rfl) (by kernel_rfl) (by kernel_rfl) (fun _ _ _ h => h) (Or.inl ⟨by rfl, fun w hSw => ?_⟩) hHeld ?_
            rotate_left
            · ((try dsimp only at hSw); go_split_ands; go_simp; (try with_reducible rfl))
            try simp only [Act.put, List.getElem_toArray, List.getElem_cons_zero, List.getElem_cons_succ, List.setIfInBounds_toArray, List.set_cons_zero, List.set_cons_succ]
            refine wpAnyH_take (i := 8) (v := ?_) rfl (by kernel_rfl) (by kernel_rfl) (by kernel_rfl) (fun _ _ _ h => h) (Or.inl ⟨by rfl, fun w hSw => ?_⟩) hHeld ?_
            rotate_left
            · ((try dsimp only at hSw); go_split_ands; go_simp; (try with_reducible rfl))
            try simp only [Act.put, List.getElem_toArray, List.getElem_cons_zero, List.getElem_cons_succ, List.setIfInBounds_toArray, List.set_cons_zero, List.set_cons_succ]
            refine wpAnyH_take (i := 9) (v := ?_) rfl (by kernel_rfl) (by kernel_rfl) (by kernel_rfl) (fun _ _ _ h => h) (Or.inl ⟨by rfl, fun w hSw => ?_⟩) hHeld ?_
            rotate_left
            · ((try dsimp only at hSw); go_split_ands; go_simp; (try with_reducible rfl))
            try simp only [Act.put, List.getElem_toArray, List.getElem_cons_zero, List.getElem_cons_succ, List.setIfInBounds_toArray, List.set_cons_zero, List.set_cons_succ]
            refine wpAnyH_take (i := 10) (v := ?_) rfl (by kernel_rfl) (by kernel_rfl) (by kernel_rfl) (fun _ _ _ h => h) (Or.inl ⟨by rfl, fun w hSw => ?_⟩) hHeld ?_
            rotate_left
            · ((try dsimp only at hSw); go_split_ands; go_simp; (try with_reducible rfl))
            try simp only [Act.put, List.getElem_toArray, List.getElem_cons_zero, List.getElem_cons_succ, List.setIfInBounds_toArray, List.set_cons_zero, List.set_cons_succ]
            refine wpAnyH_take (i := 11) (v := ?_) rfl (by kernel_rfl) (by kernel_rfl) (by kernel_rfl) (fun _ _ _ h => h) (Or.inl ⟨by rfl, fun w hSw => ?_⟩) hHeld ?_
            rotate_left
            · ((try dsimp only at hSw); go_split_ands; go_simp; (try with_reducible rfl))
            try simp only [Act.put, List.getElem_toArray, List.getElem_cons_zero, List.getElem_cons_succ, List.setIfInBounds_toArray, List.set_cons_zero, List.set_cons_succ]
            refine wpAnyH_take (i := 12) (v := ?_) rfl (by kernel_rfl) (by kernel_rfl) (by kernel_rfl) (fun _ _ _ h => h) (Or.inl ⟨by rfl, fun w hSw => ?_⟩) hHeld ?_
            rotate_left
            · ((try dsimp only at hSw); go_split_ands; go_simp; (try with_reducible rfl))
            try simp only [Act.put, List.getElem_toArray, List.getElem_cons_zero, List.getElem_cons_succ, List.setIfInBounds_toArray, List.set_cons_zero, List.set_cons_succ]
            refine wpAnyH_take (i := 13) (v := ?_) rfl (by kernel_rfl) (by kernel_rfl) (by kernel_rfl) (fun _ _ _ h => h) (Or.inl ⟨by rfl, fun w hSw => ?_⟩) hHeld ?_
            rotate_left
            · ((try dsimp only at hSw); go_split_ands; go_simp; (try with_reducible rfl))
            try simp only [Act.put, List.getElem_toArray, List.getElem_cons_zero, List.getElem_cons_succ, List.setIfInBounds_toArray, List.set_cons_zero, List.set_cons_succ]
            refine wpAnyH_take (i := 14) (v := ?_) rfl (by kernel_rfl) (by kernel_rfl) (by kernel_rfl) (fun _ _ _ h => h) (Or.inl ⟨by rfl, fun w hSw => ?_⟩) hHeld ?_
            rotate_left
            · ((try dsimp only at hSw); go_split_ands; go_simp; (try with_reducible rfl))
            try simp only [Act.put, List.getElem_toArray, List.getElem_cons_zero, List.getElem_cons_succ, List.setIfInBounds_toArray, List.set_cons_zero, List.set_cons_succ]
            refine wpAnyH_ready (rs := [15]) (by kernel_rfl) (by simp) ?_
            refine AllReadyH.cons rfl (fun K hK => ?_) AllReadyH.nil
            try simp only [List.getElem_toArray, List.getElem_cons_zero, List.getElem_cons_succ]
            (go_simp; refine HLV.out.mono ?_; rintro e w3 ⟨rfl, rfl⟩)
            refine hK.out _ _ (⟨Blk.cell blks, Blk.cell blks, g0, g1, g2⟩) (fun hHeldN => ?_)
            clear hHeld hK K
            have hHeld := hHeldN
            clear hHeldN
            try simp only [Act.put, List.getElem_toArray, List.getElem_cons_zero, List.getElem_cons_succ, List.setIfInBounds_toArray, List.set_cons_zero, List.set_cons_succ]
            refine wpAnyH_ready (rs := [16]) (by kernel_rfl) (by simp) ?_
            refine AllReadyH.cons rfl (fun K hK => ?_) AllReadyH.nil
            try simp only [List.getElem_toArray, List.getElem_cons_zero, List.getElem_cons_succ]
            (go_simp; refine (c_l4Value (.slice V 8 c) (.slice B 8 d) ⟨vs, hs⟩ ta (tval vs fb) _ ⟨_, _, rfl, HO.out.below (Below.drew (Below.refl _ _)), HP.out.below (Below.drew (Below.refl _ _)), DJ.out⟩ HVS.out.1 (by have := hfa.out.2.1; omega)).mono ?_; rintro e w4 ⟨rfl, oS, hM⟩; obtain ⟨fv, av, e4, ov4, oh4, -⟩ := oS; injection e4 with e4; injection e4 with e4; injection e4 with e5 e6; injection e6 with e6; subst e5 e6; have nx := HO.out.notBlk kx (by decide); have n0 := HO.out.notBlk k0 (by decide); have nr := HO.out.notBlk kr (by decide); have kx4 := hM.blk kx.drew nx; have qx4 := kx4.cell; have rx4 := kx4.frozen; have k04 := hM.blk k0.drew n0; have kr4 := hM.blk kr.drew nr; have hge : ∀ j, (Value.slice V 8 c).ownBlock = some j → w.heap.size ≤ j := fun j hj => (HO.out.1.lt j hj).1; have HF4 := Lib.hid (HF.out.drew.mkq hM hge); have HR4 := Lib.hid (Rdr.mkq (HR.out.below (Below.drew (Below.refl _ _))) hM (fun j hj => by have := hge j hj; omega)); have c4 := FactsV.cl (Rd.fr H1.out HF4.out (Or.inl hg)) hltf; rw [← HFK.out] at c4; simp only at c4)
            refine hK.out _ _ (⟨kx4.cell, k04.cell, c4⟩) (fun hHeldN => ?_)
            clear hHeld hK K
            have hHeld := hHeldN
            clear hHeldN
            try simp only [Act.put, List.getElem_toArray, List.getElem_cons_zero, List.getElem_cons_succ, List.setIfInBounds_toArray, List.set_cons_zero, List.set_cons_succ]
            refine wpAnyH_ready (rs := [17]) (by kernel_rfl) (by simp) ?_
            refine AllReadyH.cons rfl (fun K hK => ?_) AllReadyH.nil
            go_simp
            refine hK.out _ _ (⟨kx4.cell, k04.cell, c4⟩) (fun hHeld => ?_)
            clear hK K
            refine wpAnyH_done (by kernel_rfl) ?_ _
            unfold lastQ
            go_simp
            refine NoPanic.normal ?_
            have HO4 := Lib.hid ov4
            have HP4 := Lib.hid oh4
            clear ov4 oh4 hM nx n0 nr hge HO HP HF HR kx k0 kr c4
            go_wp2_with fail
            go_round
            case rel =>
              refine ⟨k + 1, by omega, by omega, setV vs ta (tval vs fb), hs, ⟨by rw [setV_len]; exact HVS.out.1, fun x hx => List.all_eq_true.1 (setV_ok HVS.out.2.1 ta (n := tval vs fb) (by simp only [valB, decide_eq_true_eq]; exact HY.out)) x hx, HVS.out.2.2⟩, ?_, ?_, (k04.far (p := ⟨w1.heap.size, 0, none⟩) (by simp only; omega) _).far (p := ⟨w1.heap.size, 1, none⟩) (by simp only; omega) _, (kr4.far (p := ⟨w1.heap.size, 0, none⟩) (by simp only; omega) _).far (p := ⟨w1.heap.size, 1, none⟩) (by simp only; omega) _, by simpa using (kx4.set_ 0 (.slice V 8 c)).set_ 1 (.slice B 8 d), q, (HR4.out.set_ (q := ⟨w1.heap.size, 0, none⟩) (by simp only; omega) _).set_ (q := ⟨w1.heap.size, 1, none⟩) (by simp only; omega) _, hq, (HF4.out.set_ (p := ⟨w1.heap.size, 0, none⟩) (Or.inr (by simp only; omega)) _).set_ (p := ⟨w1.heap.size, 1, none⟩) (Or.inr (by simp only; omega)) _⟩
              · exact (HO4.out.setT kx4 (by decide) 0 _).setT (kx4.set_ 0 _) (by decide) 1 _
              · exact (HP4.out.setT kx4 (by decide) 0 _).setT (kx4.set_ 0 _) (by decide) 1 _
            case measure => simp [intOf]; omega
        · obtain rfl : k = a.facts.length := by omega
          clear hltf hk
          go_wp2_with fail
          go_loopw [6, 9, 10, 11] (fun nx i _ _ wr => ∃ (n k : Nat) (vs hs : List Int), n < 8 ∧ nx = .int .i64 ((n : Int) + 1) ∧ k ≤ a.atoms.length ∧ i = .int .i64 k ∧ Hid (vs.length = 8 ∧ vs.all valB = true ∧ hs.length = 8) ∧ IntsO wr w.heap.size (.slice V 8 c) vs ∧ IntsO wr w.heap.size (.slice B 8 d) hs ∧ Blk wr w.heap.size 26 #[.slice A1 a.facts.length c1, .slice A2 a.atoms.length c2] ∧ Blk wr (w.heap.size + 1) tSt #[.slice none 0 0, .slice none 0 0] ∧ Blk wr w1.heap.size tSt #[.slice V 8 c, .slice B 8 d] ∧ ∃ q : Nat, Hid (Rdr wr g q) ∧ q ≤ p + 16 + k ∧ Hid (Fr g w wr)) (fun _ i _ _ _ => a.atoms.length - (intOf i).toNat)
          case atStart => exact ⟨0, 0, vs, hs, by omega, rfl, Nat.zero_le _, rfl, HVS, HO.out, HP.out, k0, kr, kx, q, HR.out, hq, HF.out⟩
          case round =>
            clear k0 kr kx HR HF HO HP HVS hsz hq qk0 rk0 lk0 qkx rkx lkx
            clear vs hs q
            obtain ⟨n, k, vs, hs, hn, rfl, hk, rfl, HVS, hO, hP, k0, kr, kx, q, HR, hq, HF⟩ := hrel
            have HO := Lib.hid hO
            have HP := Lib.hid hP
            have hsz := HF.out.size
            clear hO hP
            (replace qk0 := k0.cell; replace rk0 := k0.frozen; replace lk0 := k0.lt; replace qkr := kr.cell; replace rkr := kr.frozen; replace lkr := kr.lt; replace qkx := kx.cell; replace rkx := kx.frozen; replace lkx := kx.lt)
            have halen := HLEN.out.2
            by_cases hlta : k < a.atoms.length
            · have HX : Hid (AtomsV wr lo hi A2 a.atoms) := Rd.fr H2.out HF.out (Or.inl hg)
              obtain ⟨b, off, rfl, hbl⟩ := HX.out.blt hlta
              have hza : Hid (0 ≤ a.atoms[k].a ∧ a.atoms[k].a ≤ 8 ∧ 0 ≤ a.atoms[k].b ∧ a.atoms[k].b ≤ 8) := by
                have := atoms_ok HV.out a.atoms[k] (List.getElem_mem hlta)
                exact ⟨this.1.1, this.1.2, this.2.1, this.2.2⟩
              obtain ⟨g0, g1, g2⟩ := HX.out.cl hlta
              have hki : (k : Int) < (a.atoms.length : Int) := by omega
              obtain ⟨z, hz⟩ : ∃ z, z = a.atoms[k] := ⟨_, rfl⟩
              rw [← hz] at g0 g1 g2 hza
              have HZK := Lib.hid hz
              clear hz
              obtain ⟨zk, za, zb⟩ := z
              simp only at g0 g1 g2 hza
              have HL1 : Hid (∀ (t : Int) (W : World), 0 ≤ t → t ≤ 8 → Below wr.heap.size wr W → Calls Try.prog 100 #[.slice V 8 c, .int .i64 t] W fun e w' => e = .returned (.int .i64 (tval vs t)) ∧ W = w') := fun t W h0 h8 hb => by
                have := c_spec_l1Value V c vs t W ((HO.out.readsI).2.below hb) h0 (by rw [HVS.out.1]; exact h8)
                rw [HVS.out.1] at this
                exact this
              have HX8 := Lib.hid (tval_ok HVS.out.2.1 za)
              have HY8 := Lib.hid (tval_ok HVS.out.2.1 zb)
              obtain ⟨X, eX⟩ : ∃ X, X = tval vs za := ⟨_, rfl⟩
              obtain ⟨y, eY⟩ : ∃ y, y = tval vs zb := ⟨_, rfl⟩
              have EX := Lib.hid eX
              have EY := Lib.hid eY
              rw [← eX] at HX8
              rw [← eY] at HY8
              clear eX eY
              go_wp2_with fail
              refine wp_region_noPanic ?_
              refine wp_region_held_drew (S := (fun w' => (∀ i, w'.cell? ⟨w1.heap.size, i, none⟩ = #[.slice V 8 c, .slice B 8 d][i]?) ∧ (∀ i, w'.cell? ⟨w.heap.size, i, none⟩ = #[.slice A1 a.facts.length c1, .slice (some ⟨b, off, none⟩) a.atoms.length c2][i]?) ∧ w'.cell? ⟨b, off + k * 3, none⟩ = some (.int .i64 zk) ∧ w'.cell? ⟨b, off + k * 3 + 1, none⟩ = some (.int .i64 za) ∧ w'.cell? ⟨b, off + k * 3 + 2, none⟩ = some (.int .i64 zb))) (by kernel_rfl) (⟨Blk.cell blks, Blk.cell blks, g0, g1, g2⟩) (fun hHeld => ?_)
              refine wpAnyH_take (i := 0) (v := ?_) rfl (by kernel_rfl) (by kernel_rfl) (by kernel_rfl) (fun _ _ _ h => h) (Or.inl ⟨by rfl, fun w hSw => ?_⟩) hHeld ?_
              rotate_left
              · ((try dsimp only at hSw); go_split_ands; go_simp; (try with_reducible rfl))
              try simp only [Act.put, List.getElem_toArray, List.getElem_cons_zero, List.getElem_cons_succ, List.setIfInBounds_toArray, List.set_cons_zero, List.set_cons_succ]
              refine wpAnyH_take (i := 1) (v := ?_) rfl (by kernel_rfl) (by kernel_rfl) (by kernel_rfl) (fun _ _ _ h => h) (Or.inl ⟨by rfl, fun w hSw => ?_⟩) hHeld ?_
              rotate_left
              · ((try dsimp only at hSw); go_split_ands; go_simp; (try with_reducible rfl))
              try simp only [Act.put, List.getElem_toArray, List.getElem_cons_zero, List.getElem_cons_succ, List.setIfInBounds_toArray, List.set_cons_zero, List.set_cons_succ]
              refine wpAnyH_take (i := 2) (v := ?_) rfl (by kernel_rfl) (by kernel_rfl) (by kernel_rfl) (fun _ _ _ h => h) (Or.inl ⟨by rfl, fun w hSw => ?_⟩) hHeld ?_
              rotate_left
              · ((try dsimp only at hSw); go_split_ands; go_simp; (try with_reducible rfl))
              try simp only [Act.put, List.getElem_toArray, List.getElem_cons_zero, List.getElem_cons_succ, List.setIfInBounds_toArray, List.set_cons_zero, List.set_cons_succ]
              refine wpAnyH_take (i := 3) (v := ?_) rfl (by kernel_rfl) (by kernel_rfl) (by kernel_rfl) (fun _ _ _ h => h) (Or.inl ⟨by rfl, fun w hSw => ?_⟩) hHeld ?_
              rotate_left
              · ((try dsimp only at hSw); go_split_ands; go_simp; (try with_reducible rfl))
              try simp only [Act.put, List.getElem_toArray, List.getElem_cons_zero, List.getElem_cons_succ, List.setIfInBounds_toArray, List.set_cons_zero, List.set_cons_succ]
              refine wpAnyH_take (i := 4) (v := ?_) rfl (by kernel_rfl) (by kernel_rfl) (by kernel_rfl) (fun _ _ _ h => h) (Or.inl ⟨by rfl, fun w hSw => ?_⟩) hHeld ?_
              rotate_left
              · ((try dsimp only at hSw); go_split_ands; go_simp; (try with_reducible rfl))
              try simp only [Act.put, List.getElem_toArray, List.getElem_cons_zero, List.getElem_cons_succ, List.setIfInBounds_toArray, List.set_cons_zero, List.set_cons_succ]
              refine wpAnyH_take (i := 5) (v := ?_) rfl (by kernel_rfl) (by kernel_rfl) (by kernel_rfl) (fun _ _ _ h => h) (Or.inl ⟨by rfl, fun w hSw => ?_⟩) hHeld ?_
              rotate_left
              · ((try dsimp only at hSw); go_split_ands; go_simp; (try with_reducible rfl))
              try simp only [Act.put, List.getElem_toArray, List.getElem_cons_zero, List.getElem_cons_succ, List.setIfInBounds_toArray, List.set_cons_zero, List.set_cons_succ]
              refine wpAnyH_take (i := 6) (v := ?_) rfl (by kernel_rfl) (by kernel_rfl) (by kernel_rfl) (fun _ _ _ h => h) (Or.inl ⟨by rfl, fun w hSw => ?_⟩) hHeld ?_
              rotate_left
              · ((try dsimp only at hSw); go_split_ands; go_simp; (try with_reducible rfl))
              try simp only [Act.put, List.getElem_toArray, List.getElem_cons_zero, List.getElem_cons_succ, List.setIfInBounds_toArray, List.set_cons_zero, List.set_cons_succ]
              refine wpAnyH_take (i := 7) (v := ?_) rfl (by kernel_rfl) (by kernel_rfl) (by kernel_rfl) (fun _ _ _ h => h) (Or.inl ⟨by rfl, fun w hSw => ?_⟩) hHeld ?_
              rotate_left
              · ((try dsimp only at hSw); go_split_ands; go_simp; (try with_reducible rfl))
              try simp only [Act.put, List.getElem_toArray, List.getElem_cons_zero, List.getElem_cons_succ, List.setIfInBounds_toArray, List.set_cons_zero, List.set_cons_succ]
              refine wpAnyH_ready (rs := [8]) (by kernel_rfl) (by simp) ?_
              refine AllReadyH.cons rfl (fun K hK => ?_) AllReadyH.nil
              try simp only [List.getElem_toArray, List.getElem_cons_zero, List.getElem_cons_succ]
              (go_simp; refine (HL1.out za _ hza.out.1 hza.out.2.1 bel).mono ?_; rintro e w3 ⟨rfl, rfl⟩; rw [← EX.out])
              refine hK.out _ _ (⟨Blk.cell blks, Blk.cell blks, g0, g1, g2⟩) (fun hHeldN => ?_)
              clear hHeld hK K
              have hHeld := hHeldN
              clear hHeldN
              try simp only [Act.put, List.getElem_toArray, List.getElem_cons_zero, List.getElem_cons_succ, List.setIfInBounds_toArray, List.set_cons_zero, List.set_cons_succ]
              refine wpAnyH_take (i := 9) (v := ?_) rfl (by kernel_rfl) (by kernel_rfl) (by kernel_rfl) (fun _ _ _ h => h) (Or.inl ⟨by rfl, fun w hSw => ?_⟩) hHeld ?_
              rotate_left
              · ((try dsimp only at hSw); go_split_ands; go_simp; (try with_reducible rfl))
              try simp only [Act.put, List.getElem_toArray, List.getElem_cons_zero, List.getElem_cons_succ, List.setIfInBounds_toArray, List.set_cons_zero, List.set_cons_succ]
              refine wpAnyH_done (by kernel_rfl) ?_ _
              refine NoPanic.normal ?_
              go_wp2_with fail
              refine wp_region_noPanic ?_
              refine wp_region_held_drew (S := (fun w' => (∀ i, w'.cell? ⟨w1.heap.size, i, none⟩ = #[.slice V 8 c, .slice B 8 d][i]?) ∧ (∀ i, w'.cell? ⟨w.heap.size, i, none⟩ = #[.slice A1 a.facts.length c1, .slice (some ⟨b, off, none⟩) a.atoms.length c2][i]?) ∧ w'.cell? ⟨b, off + k * 3, none⟩ = some (.int .i64 zk) ∧ w'.cell? ⟨b, off + k * 3 + 1, none⟩ = some (.int .i64 za) ∧ w'.cell? ⟨b, off + k * 3 + 2, none⟩ = some (.int .i64 zb))) (by kernel_rfl) (⟨Blk.cell blks, Blk.cell blks, g0, g1, g2⟩) (fun hHeld => ?_)
              refine wpAnyH_take (i := 0) (v := ?_) rfl (by kernel_rfl) (by kernel_rfl) (by kernel_rfl) (fun _ _ _ h => h) (Or.inl ⟨by rfl, fun w hSw => ?_⟩) hHeld ?_
              rotate_left
              · ((try dsimp only at hSw); go_split_ands; go_simp; (try with_reducible rfl))
              try simp only [Act.put, List.getElem_toArray, List.getElem_cons_zero, List.getElem_cons_succ, List.setIfInBounds_toArray, List.set_cons_zero, List.set_cons_succ]
              refine wpAnyH_take (i := 1) (v := ?_) rfl (by kernel_rfl) (by kernel_rfl) (by kernel_rfl) (fun _ _ _ h => h) (Or.inl ⟨by rfl, fun w hSw => ?_⟩) hHeld ?_
              rotate_left
              · ((try dsimp only at hSw); go_split_ands; go_simp; (try with_reducible rfl))
              try simp only [Act.put, List.getElem_toArray, List.getElem_cons_zero, List.getElem_cons_succ, List.setIfInBounds_toArray, List.set_cons_zero, List.set_cons_succ]
              refine wpAnyH_take (i := 2) (v := ?_) rfl (by kernel_rfl) (by kernel_rfl) (by kernel_rfl) (fun _ _ _ h => h) (Or.inl ⟨by rfl, fun w hSw => ?_⟩) hHeld ?_
              rotate_left
              · ((try dsimp only at hSw); go_split_ands; go_simp; (try with_reducible rfl))
              try simp only [Act.put, List.getElem_toArray, List.getElem_cons_zero, List.getElem_cons_succ, List.setIfInBounds_toArray, List.set_cons_zero, List.set_cons_succ]
              refine wpAnyH_take (i := 3) (v := ?_) rfl (by kernel_rfl) (by kernel_rfl) (by kernel_rfl) (fun _ _ _ h => h) (Or.inl ⟨by rfl, fun w hSw => ?_⟩) hHeld ?_
              rotate_left
              · ((try dsimp only at hSw); go_split_ands; go_simp; (try with_reducible rfl))
              try simp only [Act.put, List.getElem_toArray, List.getElem_cons_zero, List.getElem_cons_succ, List.setIfInBounds_toArray, List.set_cons_zero, List.set_cons_succ]
              refine wpAnyH_take (i := 4) (v := ?_) rfl (by kernel_rfl) (by kernel_rfl) (by kernel_rfl) (fun _ _ _ h => h) (Or.inl ⟨by rfl, fun w hSw => ?_⟩) hHeld ?_
              rotate_left
              · ((try dsimp only at hSw); go_split_ands; go_simp; (try with_reducible rfl))
              try simp only [Act.put, List.getElem_toArray, List.getElem_cons_zero, List.getElem_cons_succ, List.setIfInBounds_toArray, List.set_cons_zero, List.set_cons_succ]
              refine wpAnyH_take (i := 5) (v := ?_) rfl (by kernel_rfl) (by kernel_rfl) (by kernel_rfl) (fun _ _ _ h => h) (Or.inl ⟨by rfl, fun w hSw => ?_⟩) hHeld ?_
              rotate_left
              · ((try dsimp only at hSw); go_split_ands; go_simp; (try with_reducible rfl))
              try simp only [Act.put, List.getElem_toArray, List.getElem_cons_zero, List.getElem_cons_succ, List.setIfInBounds_toArray, List.set_cons_zero, List.set_cons_succ]
              refine wpAnyH_take (i := 6) (v := ?_) rfl (by kernel_rfl) (by kernel_rfl) (by kernel_rfl) (fun _ _ _ h => h) (Or.inl ⟨by rfl, fun w hSw => ?_⟩) hHeld ?_
              rotate_left
              · ((try dsimp only at hSw); go_split_ands; go_simp; (try with_reducible rfl))
              try simp only [Act.put, List.getElem_toArray, List.getElem_cons_zero, List.getElem_cons_succ, List.setIfInBounds_toArray, List.set_cons_zero, List.set_cons_succ]
              refine wpAnyH_take (i := 7) (v := ?_) rfl (by kernel_rfl) (by kernel_rfl) (by kernel_rfl) (fun _ _ _ h => h) (Or.inl ⟨by rfl, fun w hSw => ?_⟩) hHeld ?_
              rotate_left
              · ((try dsimp only at hSw); go_split_ands; go_simp; (try with_reducible rfl))
              try simp only [Act.put, List.getElem_toArray, List.getElem_cons_zero, List.getElem_cons_succ, List.setIfInBounds_toArray, List.set_cons_zero, List.set_cons_succ]
              refine wpAnyH_ready (rs := [8]) (by kernel_rfl) (by simp) ?_
              refine AllReadyH.cons rfl (fun K hK => ?_) AllReadyH.nil
              try simp only [List.getElem_toArray, List.getElem_cons_zero, List.getElem_cons_succ]
              (go_simp; refine (HL1.out zb _ hza.out.2.2.1 hza.out.2.2.2 bel).mono ?_; rintro e w3 ⟨rfl, rfl⟩; rw [← EY.out])
              refine hK.out _ _ (⟨Blk.cell blks, Blk.cell blks, g0, g1, g2⟩) (fun hHeldN => ?_)
              clear hHeld hK K
              have hHeld := hHeldN
              clear hHeldN
              try simp only [Act.put, List.getElem_toArray, List.getElem_cons_zero, List.getElem_cons_succ, List.setIfInBounds_toArray, List.set_cons_zero, List.set_cons_succ]
              refine wpAnyH_take (i := 9) (v := ?_) rfl (by kernel_rfl) (by kernel_rfl) (by kernel_rfl) (fun _ _ _ h => h) (Or.inl ⟨by rfl, fun w hSw => ?_⟩) hHeld ?_
              rotate_left
              · ((try dsimp only at hSw); go_split_ands; go_simp; (try with_reducible rfl))
              try simp only [Act.put, List.getElem_toArray, List.getElem_cons_zero, List.getElem_cons_succ, List.setIfInBounds_toArray, List.set_cons_zero, List.set_cons_succ]
              refine wpAnyH_done (by kernel_rfl) ?_ _
              refine NoPanic.normal ?_
              obtain ⟨W, hW⟩ : ∃ W, W = wr.drew.drew := ⟨_, rfl⟩
              have HO2 : Hid (IntsO W w.heap.size (.slice V 8 c) vs) := by show IntsO _ _ _ _; rw [hW]; exact HO.out.below (Below.drew (Below.drew (Below.refl _ _)))
              have HP2 : Hid (IntsO W w.heap.size (.slice B 8 d) hs) := by show IntsO _ _ _ _; rw [hW]; exact HP.out.below (Below.drew (Below.drew (Below.refl _ _)))
              have HR2 : Hid (Rdr W g q) := by show Rdr _ _ _; rw [hW]; exact HR.out.below (Below.drew (Below.drew (Below.refl _ _)))
              have HF2 : Hid (Fr g w W) := by show Fr _ _ _; rw [hW]; exact HF.out.drew.drew
              have k02 : Blk W w.heap.size 26 #[.slice A1 a.facts.length c1, .slice (some ⟨b, off, none⟩) a.atoms.length c2] := by rw [hW]; exact k0.drew.drew
              have kr2 : Blk W (w.heap.size + 1) tSt #[.slice none 0 0, .slice none 0 0] := by rw [hW]; exact kr.drew.drew
              have kx2 : Blk W w1.heap.size tSt #[.slice V 8 c, .slice B 8 d] := by rw [hW]; exact kx.drew.drew
              obtain ⟨-, -, z0, -, -⟩ := hHeld
              rw [← hW] at z0 ⊢
              clear hW k0 kr kx HO HP HR HF qk0 rk0 lk0 qkr rkr lkr qkx rkx lkx g0 g1 g2 HL1 EX EY hsz
              clear HX hbl
              have hsz := HF2.out.size
              (replace qk02 := k02.cell; replace rk02 := k02.frozen; replace lk02 := k02.lt; replace qkx2 := kx2.cell; replace rkx2 := kx2.frozen; replace lkx2 := kx2.lt)
              by_cases hX0 : X = 0
              · subst hX0
                go_wp2_with fail
                go_round
                case rel => exact ⟨.int .i64 ((n : Int) + 1), .int .i64 ((k : Int) + 1), _, _, _, _, _, _, _, _, _, _, _, _, _, _, _, _, _, _, _, _, _, _, _, _, _, _, _, _, _, _, _, _, _, _, _, _, _, _, _, _, _, _, _, _, _, _, _, _, _, _, _, _, _, _, _, _, _, _, _, _, _, _, _, _, _, _, _, _, _, _, _, _, _, _, _, _, _, _, _, _, _, _, _, _, _, _, ⟨n, k + 1, vs, hs, hn, rfl, by omega, by go_num, HVS, HO2.out, HP2.out, k02, kr2, kx2, q, HR2.out, by omega, HF2.out⟩, rfl⟩
                case measure => simp [intOf]; omega
              · obtain ⟨x, eX⟩ : ∃ x : Nat, X = (x : Int) + 1 := ⟨(X - 1).toNat, by have := HX8.out; omega⟩
                subst eX
                have hx8 : x < 8 := by have := HX8.out; omega
                have hxb : ((x : Int) + 1 == 0) = false := by simp; omega
                clear hX0
                by_cases hxy : (x : Int) + 1 = y
                · have hxyb : ((x : Int) + 1 == y) = true := by simpa using hxy
                  by_cases hk2 : zk = 2
                  · have hk2b : (zk == 2) = true := by simpa using hk2
                    clear hxy hk2
                    go_wp2_with fail
                    go_round
                    case rel => exact ⟨.int .i64 ((n : Int) + 1), .int .i64 ((k : Int) + 1), _, _, _, _, _, _, _, _, _, _, _, _, _, _, _, _, _, _, _, _, _, _, _, _, _, _, _, _, _, _, _, _, _, _, _, _, _, _, _, _, _, _, _, _, _, _, _, _, _, _, _, _, _, _, _, _, _, _, _, _, _, _, _, _, _, _, _, _, _, _, _, _, _, _, _, _, _, _, _, _, _, _, _, _, _, _, ⟨n, k + 1, vs, hs, hn, rfl, by omega, by go_num, HVS, HO2.out, HP2.out, k02, kr2, kx2, q, HR2.out, by omega, HF2.out⟩, rfl⟩
                    case measure => simp [intOf]; omega
                  · have hk2b : (zk == 2) = false := by simpa using hk2
                    clear hxy hk2
                    have HO5 := HO2
                    have HP5 := HP2
                    have HR5 := HR2
                    have HF5 := HF2
                    have k05 := k02
                    have kr5 := kr2
                    have kx5 := kx2
                    obtain ⟨q5, hq5e⟩ : ∃ q5, q5 = q := ⟨_, rfl⟩
                    rw [← hq5e] at HR5 hq
                    clear hq5e
                    obtain ⟨gb, cur, -, rfl, hgb, kg, hc, hset⟩ := HP5.out.cell_ (k := x) (by have := HVS.out.2.2; omega)
                    have qg := (kg.cell x).trans hc
                    have rg := kg.frozen x
                    have lg := kg.lt
                    obtain ⟨old, ho⟩ : ∃ o, o = hs[x]'(by have := HVS.out.2.2; omega) := ⟨_, rfl⟩
                    rw [← ho] at qg
                    have HSET := Lib.hid (hset y)
                    have NE := Lib.hid (And.intro (k05.ne_ kg (by decide)) (And.intro (kr5.ne_ kg (by decide)) (kx5.ne_ kg (by decide))))
                    have hnx := NE.out.2.2
                    have hxl : (x : Int) < (hs.length : Int) := by have := HVS.out.2.2; omega
                    have hx8' : (x : Int) < 8 := by omega
                    clear hset hc ho
                    (replace qkx5 := kx5.cell; replace rkx5 := kx5.frozen; replace lkx5 := kx5.lt)
                    go_wp2_with fail
                    go_round
                    case rel => exact ⟨.int .i64 ((n : Int) + 1), .int .i64 ((k : Int) + 1), _, _, _, _, _, _, _, _, _, _, _, _, _, _, _, _, _, _, _, _, _, _, _, _, _, _, _, _, _, _, _, _, _, _, _, _, _, _, _, _, _, _, _, _, _, _, _, _, _, _, _, _, _, _, _, _, _, _, _, _, _, _, _, _, _, _, _, _, _, _, _, _, _, _, _, _, _, _, _, _, _, _, _, _, _, _, ⟨n, k + 1, vs, hs.set x y, hn, rfl, by omega, by go_num, ⟨HVS.out.1, HVS.out.2.1, by simpa using HVS.out.2.2⟩, HO5.out.set_ne (q := ⟨gb, x, none⟩) (fun e => DJ.out gb e rfl) _, HSET.out, k05.far (p := ⟨gb, x, none⟩) NE.out.1 _, kr5.far (p := ⟨gb, x, none⟩) NE.out.2.1 _, kx5.far (p := ⟨gb, x, none⟩) NE.out.2.2 _, q5, HR5.out.set_ (q := ⟨gb, x, none⟩) (by simp only; omega) _, by omega, HF5.out.set_ (p := ⟨gb, x, none⟩) (Or.inr hgb) _⟩, rfl⟩
                    case measure => simp [intOf]; omega
                · have hxyb : ((x : Int) + 1 == y) = false := by simpa using hxy
                  by_cases hk2 : zk = 2
                  · have hk2b : (zk == 2) = true := by simpa using hk2
                    clear hxy hk2
                    go_wp2_with fail
                    refine (c_pick g q 2 _ HR2.out (by omega)).mono ?_
                    rintro e w5 ⟨m, rfl, hm, hR5, hF5⟩
                    have HF5 := Lib.hid (HF2.out.trans hF5)
                    have HR5 := Lib.hid hR5
                    have HO5 := Lib.hid (HO2.out.fr hF5 hlt)
                    have HP5 := Lib.hid (HP2.out.fr hF5 hlt)
                    have k05 := k02.fr hF5 (by omega)
                    have kr5 := kr2.fr hF5 (by omega)
                    have kx5 := kx2.fr hF5 (by omega)
                    obtain ⟨q5, hq5e⟩ : ∃ q5, q5 = q + 1 := ⟨_, rfl⟩
                    rw [← hq5e] at HR5
                    have hq5 : q5 ≤ p + (17 + k) := by omega
                    clear hR5 hF5 hq5e HR2 HO2 HP2 HF2 k02 kr2 kx2 qk02 rk02 lk02 qkx2 rkx2 lkx2
                    by_cases hmz : m = 0
                    · skip
                      have hszi := HF5.out.size
                      have hm0 : ((m : Int) == 0) = true := by simpa using hmz
                      clear hmz
                      go_wp2_with fail
                      go_loopw [6] (fun nx wx => ∃ n : Nat, n < 8 ∧ nx = .int .i64 ((n : Int) + 1) ∧ IntsO wx w.heap.size (.slice V 8 c) vs ∧ IntsO wx w.heap.size (.slice B 8 d) hs ∧ Blk wx w.heap.size 26 #[.slice A1 a.facts.length c1, .slice (some ⟨b, off, none⟩) a.atoms.length c2] ∧ Blk wx (w.heap.size + 1) tSt #[.slice none 0 0, .slice none 0 0] ∧ Blk wx w1.heap.size tSt #[.slice V 8 c, .slice B 8 d] ∧ Hid (Rdr wx g q5) ∧ Hid (Fr g w wx)) (fun nx _ => 10 - (intOf nx).toNat)
                      case atStart => exact ⟨n, hn, rfl, HO5.out, HP5.out, k05, kr5, kx5, HR5.out, HF5.out⟩
                      case round =>
                        clear HO5 HP5 HR5 HF5 k05 kr5 kx5 hszi
                        clear hn
                        obtain ⟨n, hn, rfl, hO5, hP5, k05, kr5, kx5, HR5, HF5⟩ := hrel
                        have HO5 := Lib.hid hO5
                        have HP5 := Lib.hid hP5
                        clear hO5 hP5
                        have hszi := HF5.out.size
                        (replace qkx5 := kx5.cell; replace rkx5 := kx5.frozen; replace lkx5 := kx5.lt)
                        obtain ⟨gb, cur, -, eB, hgb, kg, hc, -⟩ := HP5.out.cell_ (k := n) (by have := HVS.out.2.2; omega)
                        have qg := (kg.cell n).trans hc
                        obtain ⟨old, ho⟩ : ∃ o, o = hs[n]'(by have := HVS.out.2.2; omega) := ⟨_, rfl⟩
                        rw [← ho] at qg
                        have hnl : (n : Int) < (8 : Int) := by omega
                        subst eB
                        clear hc ho kg
                        by_cases hn7 : n < 7
                        · have hni : (n : Int) + 1 < 8 := by omega
                          by_cases hold : 0 ≤ old
                          · go_wp2_with fail
                            go_round
                            case rel => exact ⟨n + 1, by omega, by go_num, HO5.out, HP5.out, k05, kr5, kx5, HR5.out, HF5.out⟩
                            case measure => simp [intOf]; omega
                          · go_wp2_with fail
                            refine (c_l4Known _ ⟨vs, hs⟩ ((n : Int) + 1) _ ⟨V, c, some ⟨gb, 0, none⟩, d, by rw [show (⟨vs, hs⟩ : Ste).values.length = 8 from HVS.out.1, show (⟨vs, hs⟩ : Ste).heap.length = 8 from HVS.out.2.2], (HO5.out.readsI).2.mono (Nat.zero_le _) (Nat.le_refl _), (HP5.out.readsI).2.mono (Nat.zero_le _) (Nat.le_refl _)⟩).mono ?_
                            rintro e w6 ⟨bb, rfl, hB6⟩
                            have HO6 := Lib.hid (HO5.out.below hB6)
                            have HP6 := Lib.hid (HP5.out.below hB6)
                            have HR6 := Lib.hid (HR5.out.below hB6)
                            have HF6 := Lib.hid (HF5.out.go hB6)
                            have k06 := k05.next hB6
                            have kr6 := kr5.next hB6
                            have kx6 := kx5.next hB6
                            clear HO5 HP5 HR5 HF5 k05 kr5 kx5 hB6 qkx5 rkx5 lkx5 qg
                            (replace qkx6 := kx6.cell; replace rkx6 := kx6.frozen; replace lkx6 := kx6.lt)
                            cases bb
                            · skip
                              obtain ⟨gb2, cur2, -, e2, -, kg2, hc2, hset2⟩ := HP6.out.cell_ (k := x) (by have := HVS.out.2.2; omega)
                              obtain rfl : gb = gb2 := by simpa using e2
                              clear e2
                              have qx := (kg2.cell x).trans hc2
                              have rgx := kg2.frozen
                              have lg2 := kg2.lt
                              have NE := Lib.hid (And.intro (k06.ne_ kg2 (by decide)) (And.intro (kr6.ne_ kg2 (by decide)) (kx6.ne_ kg2 (by decide))))
                              have hnx := NE.out.2.2
                              have hxl : (x : Int) < (hs.length : Int) := by have := HVS.out.2.2; omega
                              have hx8' : (x : Int) < 8 := by omega
                              have hn8' : (n : Int) < 8 := by omega
                              obtain ⟨gb3, cur3, -, e3, -, -, -, hset3⟩ := (hset2 ((n : Int) + 1)).cell_ (k := n) (by rw [List.length_set]; have := HVS.out.2.2; omega)
                              obtain rfl : gb = gb3 := by simpa using e3
                              have HSET := Lib.hid (hset3 y)
                              have HLEN2 : Hid (((hs.set x ((n : Int) + 1)).set n y).length = 8) := by show _ = _; simpa using HVS.out.2.2
                              obtain ⟨oldx, hox⟩ : ∃ o, o = hs[x]'(by have := HVS.out.2.2; omega) := ⟨_, rfl⟩
                              rw [← hox] at qx
                              clear e3 hset2 hset3 hc2 hox
                              (replace qkx6 := kx6.cell; replace rkx6 := kx6.frozen; replace lkx6 := kx6.lt)
                              by_cases enx : n = x
                              · subst enx
                                go_wp2_with fail
                                go_round
                                case rel =>
                                  refine ⟨.int .i64 ((n : Int) + 1), .int .i64 ((k : Int) + 1), _, _, _, _, _, _, _, _, _, _, _, _, _, _, _, _, _, _, _, _, _, _, _, _, _, _, _, _, _, _, _, _, _, _, _, _, _, _, _, _, _, _, _, _, _, _, _, _, _, _, _, _, _, _, _, _, _, _, _, _, _, _, _, _, _, _, _, _, _, _, _, _, _, _, _, _, _, _, _, _, _, _, _, _, _, _, ⟨n, k + 1, vs, (hs.set n ((n : Int) + 1)).set n y, hn, rfl, ?_, ?_, ?_, ?_, ?_, ?_, ?_, ?_, q5, ?_, ?_, ?_⟩, rfl⟩
                                  · omega
                                  · go_num
                                  · exact ⟨HVS.out.1, HVS.out.2.1, HLEN2.out⟩
                                  · exact (HO6.out.set_ne (q := ⟨gb, n, none⟩) (fun e => DJ.out gb e rfl) _).set_ne (q := ⟨gb, n, none⟩) (fun e => DJ.out gb e rfl) _
                                  · exact HSET.out
                                  · exact (k06.far (p := ⟨gb, n, none⟩) NE.out.1 _).far (p := ⟨gb, n, none⟩) NE.out.1 _
                                  · exact (kr6.far (p := ⟨gb, n, none⟩) NE.out.2.1 _).far (p := ⟨gb, n, none⟩) NE.out.2.1 _
                                  · exact (kx6.far (p := ⟨gb, n, none⟩) NE.out.2.2 _).far (p := ⟨gb, n, none⟩) NE.out.2.2 _
                                  · exact (HR6.out.set_ (q := ⟨gb, n, none⟩) (by simp only; omega) _).set_ (q := ⟨gb, n, none⟩) (by simp only; omega) _
                                  · omega
                                  · exact (HF6.out.set_ (p := ⟨gb, n, none⟩) (Or.inr hgb) _).set_ (p := ⟨gb, n, none⟩) (Or.inr hgb) _
                                case measure => simp [intOf]; omega
                              · obtain ⟨gb4, cur4, -, e4, -, kg4, hc4, -⟩ := HP6.out.cell_ (k := n) (by have := HVS.out.2.2; omega)
                                obtain rfl : gb = gb4 := by simpa using e4
                                have qn := (kg4.cell n).trans hc4
                                obtain ⟨oldn, hon⟩ : ∃ o, o = hs[n]'(by have := HVS.out.2.2; omega) := ⟨_, rfl⟩
                                rw [← hon] at qn
                                have enx2 : x ≠ n := fun e => enx e.symm
                                clear e4 hc4 hon kg4
                                go_wp2_with fail
                                go_round
                                case rel =>
                                  refine ⟨.int .i64 ((n : Int) + 1), .int .i64 ((k : Int) + 1), _, _, _, _, _, _, _, _, _, _, _, _, _, _, _, _, _, _, _, _, _, _, _, _, _, _, _, _, _, _, _, _, _, _, _, _, _, _, _, _, _, _, _, _, _, _, _, _, _, _, _, _, _, _, _, _, _, _, _, _, _, _, _, _, _, _, _, _, _, _, _, _, _, _, _, _, _, _, _, _, _, _, _, _, _, _, ⟨n, k + 1, vs, (hs.set x ((n : Int) + 1)).set n y, hn, rfl, ?_, ?_, ?_, ?_, ?_, ?_, ?_, ?_, q5, ?_, ?_, ?_⟩, rfl⟩
                                  · omega
                                  · go_num
                                  · exact ⟨HVS.out.1, HVS.out.2.1, HLEN2.out⟩
                                  · exact (HO6.out.set_ne (q := ⟨gb, x, none⟩) (fun e => DJ.out gb e rfl) _).set_ne (q := ⟨gb, n, none⟩) (fun e => DJ.out gb e rfl) _
                                  · exact HSET.out
                                  · exact (k06.far (p := ⟨gb, x, none⟩) NE.out.1 _).far (p := ⟨gb, n, none⟩) NE.out.1 _
                                  · exact (kr6.far (p := ⟨gb, x, none⟩) NE.out.2.1 _).far (p := ⟨gb, n, none⟩) NE.out.2.1 _
                                  · exact (kx6.far (p := ⟨gb, x, none⟩) NE.out.2.2 _).far (p := ⟨gb, n, none⟩) NE.out.2.2 _
                                  · exact (HR6.out.set_ (q := ⟨gb, x, none⟩) (by simp only; omega) _).set_ (q := ⟨gb, n, none⟩) (by simp only; omega) _
                                  · omega
                                  · exact (HF6.out.set_ (p := ⟨gb, x, none⟩) (Or.inr hgb) _).set_ (p := ⟨gb, n, none⟩) (Or.inr hgb) _
                                case measure => simp [intOf]; omega
                            · go_wp2_with fail
                              go_round
                              case rel => exact ⟨n + 1, by omega, by go_num, HO6.out, HP6.out, k06, kr6, kx6, HR6.out, HF6.out⟩
                              case measure => simp [intOf]; omega
                        · have hni : ¬ ((n : Int) + 1 < 8) := by omega
                          obtain ⟨gb2, cur2, -, e2, -, kg2, hc2, hset2⟩ := HP5.out.cell_ (k := x) (by have := HVS.out.2.2; omega)
                          obtain rfl : gb = gb2 := by simpa using e2
                          clear e2
                          have qx := (kg2.cell x).trans hc2
                          have rgx := kg2.frozen
                          have lg2 := kg2.lt
                          have NE := Lib.hid (And.intro (k05.ne_ kg2 (by decide)) (And.intro (kr5.ne_ kg2 (by decide)) (kx5.ne_ kg2 (by decide))))
                          have hnx := NE.out.2.2
                          have hxl : (x : Int) < (hs.length : Int) := by have := HVS.out.2.2; omega
                          have hx8' : (x : Int) < 8 := by omega
                          have hn8' : (n : Int) < 8 := by omega
                          obtain ⟨gb3, cur3, -, e3, -, -, -, hset3⟩ := (hset2 ((n : Int) + 1)).cell_ (k := n) (by rw [List.length_set]; have := HVS.out.2.2; omega)
                          obtain rfl : gb = gb3 := by simpa using e3
                          have HSET := Lib.hid (hset3 y)
                          have HLEN2 : Hid (((hs.set x ((n : Int) + 1)).set n y).length = 8) := by show _ = _; simpa using HVS.out.2.2
                          obtain ⟨oldx, hox⟩ : ∃ o, o = hs[x]'(by have := HVS.out.2.2; omega) := ⟨_, rfl⟩
                          rw [← hox] at qx
                          clear e3 hset2 hset3 hc2 hox
                          (replace qkx5 := kx5.cell; replace rkx5 := kx5.frozen; replace lkx5 := kx5.lt)
                          by_cases enx : n = x
                          · subst enx
                            go_wp2_with fail
                            go_round
                            case rel =>
                              refine ⟨.int .i64 ((n : Int) + 1), .int .i64 ((k : Int) + 1), _, _, _, _, _, _, _, _, _, _, _, _, _, _, _, _, _, _, _, _, _, _, _, _, _, _, _, _, _, _, _, _, _, _, _, _, _, _, _, _, _, _, _, _, _, _, _, _, _, _, _, _, _, _, _, _, _, _, _, _, _, _, _, _, _, _, _, _, _, _, _, _, _, _, _, _, _, _, _, _, _, _, _, _, _, _, ⟨n, k + 1, vs, (hs.set n ((n : Int) + 1)).set n y, hn, rfl, ?_, ?_, ?_, ?_, ?_, ?_, ?_, ?_, q5, ?_, ?_, ?_⟩, rfl⟩
                              · omega
                              · go_num
                              · exact ⟨HVS.out.1, HVS.out.2.1, HLEN2.out⟩
                              · exact (HO5.out.set_ne (q := ⟨gb, n, none⟩) (fun e => DJ.out gb e rfl) _).set_ne (q := ⟨gb, n, none⟩) (fun e => DJ.out gb e rfl) _
                              · exact HSET.out
                              · exact (k05.far (p := ⟨gb, n, none⟩) NE.out.1 _).far (p := ⟨gb, n, none⟩) NE.out.1 _
                              · exact (kr5.far (p := ⟨gb, n, none⟩) NE.out.2.1 _).far (p := ⟨gb, n, none⟩) NE.out.2.1 _
                              · exact (kx5.far (p := ⟨gb, n, none⟩) NE.out.2.2 _).far (p := ⟨gb, n, none⟩) NE.out.2.2 _
                              · exact (HR5.out.set_ (q := ⟨gb, n, none⟩) (by simp only; omega) _).set_ (q := ⟨gb, n, none⟩) (by simp only; omega) _
                              · omega
                              · exact (HF5.out.set_ (p := ⟨gb, n, none⟩) (Or.inr hgb) _).set_ (p := ⟨gb, n, none⟩) (Or.inr hgb) _
                            case measure => simp [intOf]; omega
                          · obtain ⟨gb4, cur4, -, e4, -, kg4, hc4, -⟩ := HP5.out.cell_ (k := n) (by have := HVS.out.2.2; omega)
                            obtain rfl : gb = gb4 := by simpa using e4
                            have qn := (kg4.cell n).trans hc4
                            obtain ⟨oldn, hon⟩ : ∃ o, o = hs[n]'(by have := HVS.out.2.2; omega) := ⟨_, rfl⟩
                            rw [← hon] at qn
                            have enx2 : x ≠ n := fun e => enx e.symm
                            clear e4 hc4 hon kg4
                            go_wp2_with fail
                            go_round
                            case rel =>
                              refine ⟨.int .i64 ((n : Int) + 1), .int .i64 ((k : Int) + 1), _, _, _, _, _, _, _, _, _, _, _, _, _, _, _, _, _, _, _, _, _, _, _, _, _, _, _, _, _, _, _, _, _, _, _, _, _, _, _, _, _, _, _, _, _, _, _, _, _, _, _, _, _, _, _, _, _, _, _, _, _, _, _, _, _, _, _, _, _, _, _, _, _, _, _, _, _, _, _, _, _, _, _, _, _, _, ⟨n, k + 1, vs, (hs.set x ((n : Int) + 1)).set n y, hn, rfl, ?_, ?_, ?_, ?_, ?_, ?_, ?_, ?_, q5, ?_, ?_, ?_⟩, rfl⟩
                              · omega
                              · go_num
                              · exact ⟨HVS.out.1, HVS.out.2.1, HLEN2.out⟩
                              · exact (HO5.out.set_ne (q := ⟨gb, x, none⟩) (fun e => DJ.out gb e rfl) _).set_ne (q := ⟨gb, n, none⟩) (fun e => DJ.out gb e rfl) _
                              · exact HSET.out
                              · exact (k05.far (p := ⟨gb, x, none⟩) NE.out.1 _).far (p := ⟨gb, n, none⟩) NE.out.1 _
                              · exact (kr5.far (p := ⟨gb, x, none⟩) NE.out.2.1 _).far (p := ⟨gb, n, none⟩) NE.out.2.1 _
                              · exact (kx5.far (p := ⟨gb, x, none⟩) NE.out.2.2 _).far (p := ⟨gb, n, none⟩) NE.out.2.2 _
                              · exact (HR5.out.set_ (q := ⟨gb, x, none⟩) (by simp only; omega) _).set_ (q := ⟨gb, n, none⟩) (by simp only; omega) _
                              · omega
                              · exact (HF5.out.set_ (p := ⟨gb, x, none⟩) (Or.inr hgb) _).set_ (p := ⟨gb, n, none⟩) (Or.inr hgb) _
                            case measure => simp [intOf]; omega
                    · have hm0 : ((m : Int) == 0) = false := by simp; omega
                      clear hmz
                      obtain ⟨gb, cur, -, rfl, hgb, kg, hc, hset⟩ := HP5.out.cell_ (k := x) (by have := HVS.out.2.2; omega)
                      have qg := (kg.cell x).trans hc
                      have rg := kg.frozen x
                      have lg := kg.lt
                      obtain ⟨old, ho⟩ : ∃ o, o = hs[x]'(by have := HVS.out.2.2; omega) := ⟨_, rfl⟩
                      rw [← ho] at qg
                      have HSET := Lib.hid (hset y)
                      have NE := Lib.hid (And.intro (k05.ne_ kg (by decide)) (And.intro (kr5.ne_ kg (by decide)) (kx5.ne_ kg (by decide))))
                      have hnx := NE.out.2.2
                      have hxl : (x : Int) < (hs.length : Int) := by have := HVS.out.2.2; omega
                      have hx8' : (x : Int) < 8 := by omega
                      clear hset hc ho
                      (replace qkx5 := kx5.cell; replace rkx5 := kx5.frozen; replace lkx5 := kx5.lt)
                      go_wp2_with fail
                      go_round
                      case rel => exact ⟨.int .i64 ((n : Int) + 1), .int .i64 ((k : Int) + 1), _, _, _, _, _, _, _, _, _, _, _, _, _, _, _, _, _, _, _, _, _, _, _, _, _, _, _, _, _, _, _, _, _, _, _, _, _, _, _, _, _, _, _, _, _, _, _, _, _, _, _, _, _, _, _, _, _, _, _, _, _, _, _, _, _, _, _, _, _, _, _, _, _, _, _, _, _, _, _, _, _, _, _, _, _, _, ⟨n, k + 1, vs, hs.set x y, hn, rfl, by omega, by go_num, ⟨HVS.out.1, HVS.out.2.1, by simpa using HVS.out.2.2⟩, HO5.out.set_ne (q := ⟨gb, x, none⟩) (fun e => DJ.out gb e rfl) _, HSET.out, k05.far (p := ⟨gb, x, none⟩) NE.out.1 _, kr5.far (p := ⟨gb, x, none⟩) NE.out.2.1 _, kx5.far (p := ⟨gb, x, none⟩) NE.out.2.2 _, q5, HR5.out.set_ (q := ⟨gb, x, none⟩) (by simp only; omega) _, by omega, HF5.out.set_ (p := ⟨gb, x, none⟩) (Or.inr hgb) _⟩, rfl⟩
                      case measure => simp [intOf]; omega
                  · have hk2b : (zk == 2) = false := by simpa using hk2
                    clear hxy hk2
                    have HO5 := HO2
                    have HP5 := HP2
                    have HR5 := HR2
                    have HF5 := HF2
                    have k05 := k02
                    have kr5 := kr2
                    have kx5 := kx2
                    obtain ⟨q5, hq5e⟩ : ∃ q5, q5 = q := ⟨_, rfl⟩
                    rw [← hq5e] at HR5 hq
                    clear hq5e
                    obtain ⟨gb, cur, -, rfl, hgb, kg, hc, hset⟩ := HP5.out.cell_ (k := x) (by have := HVS.out.2.2; omega)
                    have qg := (kg.cell x).trans hc
                    have rg := kg.frozen x
                    have lg := kg.lt
                    obtain ⟨old, ho⟩ : ∃ o, o = hs[x]'(by have := HVS.out.2.2; omega) := ⟨_, rfl⟩
                    rw [← ho] at qg
                    have HSET := Lib.hid (hset y)
                    have NE := Lib.hid (And.intro (k05.ne_ kg (by decide)) (And.intro (kr5.ne_ kg (by decide)) (kx5.ne_ kg (by decide))))
                    have hnx := NE.out.2.2
                    have hxl : (x : Int) < (hs.length : Int) := by have := HVS.out.2.2; omega
                    have hx8' : (x : Int) < 8 := by omega
                    clear hset hc ho
                    (replace qkx5 := kx5.cell; replace rkx5 := kx5.frozen; replace lkx5 := kx5.lt)
                    go_wp2_with fail
                    go_round
                    case rel => exact ⟨.int .i64 ((n : Int) + 1), .int .i64 ((k : Int) + 1), _, _, _, _, _, _, _, _, _, _, _, _, _, _, _, _, _, _, _, _, _, _, _, _, _, _, _, _, _, _, _, _, _, _, _, _, _, _, _, _, _, _, _, _, _, _, _, _, _, _, _, _, _, _, _, _, _, _, _, _, _, _, _, _, _, _, _, _, _, _, _, _, _, _, _, _, _, _, _, _, _, _, _, _, _, _, ⟨n, k + 1, vs, hs.set x y, hn, rfl, by omega, by go_num, ⟨HVS.out.1, HVS.out.2.1, by simpa using HVS.out.2.2⟩, HO5.out.set_ne (q := ⟨gb, x, none⟩) (fun e => DJ.out gb e rfl) _, HSET.out, k05.far (p := ⟨gb, x, none⟩) NE.out.1 _, kr5.far (p := ⟨gb, x, none⟩) NE.out.2.1 _, kx5.far (p := ⟨gb, x, none⟩) NE.out.2.2 _, q5, HR5.out.set_ (q := ⟨gb, x, none⟩) (by simp only; omega) _, by omega, HF5.out.set_ (p := ⟨gb, x, none⟩) (Or.inr hgb) _⟩, rfl⟩
                    case measure => simp [intOf]; omega
            · obtain rfl : k = a.atoms.length := by omega
              go_wp2_with fail
              refine bodyPost_ret (v := .agg #[.slice V 8 c, .slice B 8 d]) (by simp [results, Try.results247, go_sem, qkr]) rfl ⟨_, ⟨vs, hs⟩, q, rfl, ⟨_, _, rfl, ?_, ?_, DJ.out⟩, by have := HVS.out.1; simp only; omega, by have := HVS.out.2.2; simp only; omega, ?_, by omega, ?_⟩
              · exact (HO.out.setT kr (by decide) 0 _).setT (kr.set_ 0 _) (by decide) 1 _
              · exact (HP.out.setT kr (by decide) 0 _).setT (kr.set_ 0 _) (by decide) 1 _
              · exact (HR.out.set_ (q := ⟨w.heap.size + 1, 0, none⟩) (by simp only; omega) _).set_ (q := ⟨w.heap.size + 1, 1, none⟩) (by simp only; omega) _
              · exact (HF.out.set_ (p := ⟨w.heap.size + 1, 0, none⟩) (Or.inr (by simp only; omega)) _).set_ (p := ⟨w.heap.size + 1, 1, none⟩) (Or.inr (by simp only; omega)) _
end Go.Proofs.Ytmjgcdolnkdfoaa
