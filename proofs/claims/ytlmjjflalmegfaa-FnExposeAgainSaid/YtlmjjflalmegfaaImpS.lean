/- Contracts: the spec's Implies. -/
import Derived.Test.YtlmjjflalmegfaaMFirstG
import Derived.Deep.DeepCutAuto
set_option linter.unusedSimpArgs false
set_option linter.unusedVariables false
namespace Go.Proofs.Ytlmjjflalmegfaa
open Go Go.RowKit Go.Proofs
attribute [local go_sem ↓] Go.wp_at_zero Go.wp_at_succ
theorem BoolsO.openI {w : World} {base : Nat} {A : Option Addr} {n c k : Nat} {fs : List Bool} (h : BoolsO w base (.slice A n c) fs) (hk : k < fs.length) : ∃ g cur, n = fs.length ∧ A = some ⟨g, 0, none⟩ ∧ base ≤ g ∧ Blk w g tB cur ∧ cur[k]? = some (.bool fs[k]) ∧
    (∀ v : Bool, BoolsO (w.setCell ⟨g, k, none⟩ (.bool v)) base (.slice A n c) (fs.set k v)) := by
  obtain ⟨⟨hl, h2⟩, hL⟩ := h
  rcases h2 with ⟨e, hn⟩ | ⟨g, cap, cur, e, hb, hh, hn, hm, hs, ht⟩
  · omega
  · injection e with e1 e2 e3
    subst e1 e2 e3
    have hK : Blk w g tB cur := hh
    have hP : Pre cur (encB fs) (fs.length * 1) := by
      intro j hj
      rw [← ht, List.getElem?_take, if_pos hj]; simp
    refine ⟨g, cur, rfl, rfl, hb, hK, (hP _ (by omega)).trans (by simp [List.getElem?_eq_getElem hk]), ?_⟩
    intro v
    refine ⟨?_, by rw [List.length_set]; exact hL⟩
    rw [show encB (fs.set k v) = (encB fs).set k (.bool v) from by simp [encB, List.map_set], List.length_set]
    exact own_of_blk (hK.set_ k (.bool v)) hb (by rw [List.length_set, hl]) (hP.setL k (.bool v) (by rw [hs]; exact Nat.mul_le_mul hn (Nat.le_refl _)) (by rw [hl]; exact Nat.le_refl _)) hn hm (by simpa using hs)
theorem rowB_ {B : Nat} {w w' : World} (h : Below B w w') {g : Nat} (hg : g < B) {cs : Array Value} (hc : ∀ i, w.cell? ⟨g, i, none⟩ = cs[i]?) : ∀ i, w'.cell? ⟨g, i, none⟩ = cs[i]? := fun i => (h.cell (p := ⟨g, i, none⟩) hg).trans (hc i)
--@ spec.Implies
set_option maxRecDepth 100000 in
set_option maxHeartbeats 6400000 in
theorem c_spec_Implies {lo hi : Nat} (v : Value) (a : Asn) (f : Fct) (w : World) (h : AsnV w lo hi v a) :
    Calls Try.prog 114 #[v, f.val] w fun e w' => e = .returned (.bool (impB a f)) ∧ Below w.heap.size w w' := by
  have hV := Lib.hid h
  obtain ⟨A1, c1, A2, c2, rfl, h1, h2⟩ := h
  have H1 := Lib.hid h1
  have H2 := Lib.hid h2
  have HE : Hid (impB a f = (a.valid && f.valid && (cases a (caseS a (factS f))).all (Fct.fits · f))) := Lib.hid rfl
  obtain ⟨fe, fa, fb⟩ := f
  clear h1 h2
  go_enter Try.func114, Try.ntmps114
  have k0 : Blk ((w.alloc (.cells #[.slice A1 a.facts.length c1, .slice A2 a.atoms.length c2] tAs)).alloc (.cells #[.bool fe, .int .i64 fa, .int .i64 fb] tF)) w.heap.size tAs #[.slice A1 a.facts.length c1, .slice A2 a.atoms.length c2] := blks
  have k1 : Blk ((w.alloc (.cells #[.slice A1 a.facts.length c1, .slice A2 a.atoms.length c2] tAs)).alloc (.cells #[.bool fe, .int .i64 fa, .int .i64 fb] tF)) (w.heap.size + 1) tF #[.bool fe, .int .i64 fa, .int .i64 fb] := blks
  have hB0 : Hid (Below w.heap.size w ((w.alloc (.cells #[.slice A1 a.facts.length c1, .slice A2 a.atoms.length c2] tAs)).alloc (.cells #[.bool fe, .int .i64 fa, .int .i64 fb] tF))) := Lib.hid bel
  have hs0 : ((w.alloc (.cells #[.slice A1 a.facts.length c1, .slice A2 a.atoms.length c2] tAs)).alloc (.cells #[.bool fe, .int .i64 fa, .int .i64 fb] tF)).heap.size = w.heap.size + 2 := by simp
  go_wp2_with fail
  generalize ((w.alloc (.cells #[.slice A1 a.facts.length c1, .slice A2 a.atoms.length c2] tAs)).alloc (.cells #[.bool fe, .int .i64 fa, .int .i64 fb] tF)) = W at k0 k1 hB0 hs0 ⊢
  refine (c_spec_AssertionValid _ a _ (hV.out.below hB0.out)).mono ?_
  rintro e w1 ⟨rfl, hB1⟩
  replace k0 := k0.next hB1
  replace k1 := k1.next hB1
  have hB : Hid (Below w.heap.size w w1) := Lib.hid (bgo hB0.out hB1)
  have hz1 := hB1.size
  clear hB1 hB0
  (replace qk0 := k0.cell; replace rk0 := k0.frozen; replace lk0 := k0.lt; replace qk1 := k1.cell; replace rk1 := k1.frozen; replace lk1 := k1.lt)
  cases hv : a.valid
  · go_wp2_with fail
    go_ret
    exact ⟨ret_bool (by rw [HE.out, hv]; rfl), hB.out⟩
  have HV := Lib.hid hv
  clear hv








  -- BEHIND
  go_wp2_with fail
  refine (c_spec_FactValid ⟨fe, fa, fb⟩ _).mono ?_
  rintro e w2 ⟨rfl, hB2⟩
  replace k0 := k0.next hB2
  replace k1 := k1.next hB2
  replace hB : Hid (Below w.heap.size w w2) := Lib.hid (bgo hB.out hB2)
  have hz2 := hB2.size
  clear hB2 qk0 rk0 lk0 qk1 rk1 lk1
  (replace qk0 := k0.cell; replace rk0 := k0.frozen; replace lk0 := k0.lt; replace qk1 := k1.cell; replace rk1 := k1.frozen; replace lk1 := k1.lt)
  cases hf : Fct.valid ⟨fe, fa, fb⟩
  · go_wp2_with fail
    go_ret
    exact ⟨ret_bool (by rw [HE.out, hf]; simp), hB.out⟩
  have HFO := Fct.valid_ok hf
  have HSEEK := Lib.hid (imp_seek (f := ⟨fe, fa, fb⟩) HV.out hf)
  have HE2 : Hid (impB a ⟨fe, fa, fb⟩ = (seek ⟨a.facts ++ [Fct.mk (!fe) fa fb], a.atoms⟩ ((tset (termsL a) ||| 1 <<< fa.toNat) ||| 1 <<< fb.toNat) 8 opened).isEmpty) := Lib.hid (by rw [HE.out, HV.out, hf, HSEEK.out]; rfl)
  have HOK : Hid (FactsOk (a.facts ++ [Fct.mk (!fe) fa fb]) ∧ AtomsOk a.atoms) := Lib.hid ⟨fun g hg => by
    rw [List.mem_append, List.mem_singleton] at hg
    rcases hg with hg | rfl
    · exact (Asn.valid_ok HV.out).1 g hg
    · exact HFO, (Asn.valid_ok HV.out).2⟩
  have hvl := valid_len HV.out
  have HVL : Hid ((a.facts ++ [Fct.mk (!fe) fa fb]).length ≤ 40 ∧ a.atoms.length ≤ 6) := Lib.hid ⟨by simp; omega, hvl.2⟩
  have hfl : a.facts.length + 1 ≤ 1049600 := by omega
  clear hf HSEEK HE hvl
  simp only at HFO
  obtain ⟨⟨ha0, ha8⟩, hb0, hb8⟩ := HFO
  obtain ⟨na, rfl⟩ : ∃ n : Nat, fa = (n : Int) := ⟨fa.toNat, by omega⟩
  obtain ⟨nb, rfl⟩ : ∃ n : Nat, fb = (n : Int) := ⟨fb.toNat, by omega⟩
  have hna : na < 9 := by omega
  have hnb : nb < 9 := by omega
  have hnai : (na : Int) < 9 := by omega
  have hnbi : (nb : Int) < 9 := by omega
  have HT := Lib.hid (termsL_ok HV.out)
  rw [show ((na : Int)).toNat = na from rfl, show ((nb : Int)).toNat = nb from rfl] at HE2
  clear ha0 ha8 hb0 hb8
  go_wp2_with fail
  refine (c_spec_l3Terms _ a _ (hV.out.below hB.out) HT.out).mono ?_
  rintro e w3 ⟨r3, rfl, o3, hB3⟩
  obtain ⟨Tb, ct, rfl, -⟩ := o3.reads
  rw [flagsOf_length] at o3 ⊢
  obtain ⟨S0, hS0⟩ : ∃ S0, S0 = tset (termsL a) := ⟨_, rfl⟩
  rw [← hS0] at o3 HE2
  replace k0 := k0.next hB3
  replace k1 := k1.next hB3
  replace hB : Hid (Below w.heap.size w w3) := Lib.hid (bgo hB.out hB3)
  have hz3 := hB3.size
  clear hB3 hS0 qk0 rk0 lk0 qk1 rk1 lk1 HT
  obtain ⟨g, cur, -, rfl, hg, kg, hc, hset⟩ := o3.openI (k := na) (by rw [flagsOf_length]; exact hna)
  have qg := kg.cell na
  rw [hc] at qg
  have fg := kg.frozen na
  have lg := kg.lt
  have hg0 := k0.ne_ kg (by decide)
  have hg1 := k1.ne_ kg (by decide)
  have O4 := Lib.hid (hset true)
  have hlg : w2.heap.size ≤ g := hg
  clear hset hc
  (replace qk0 := k0.cell; replace rk0 := k0.frozen; replace lk0 := k0.lt; replace qk1 := k1.cell; replace rk1 := k1.frozen; replace lk1 := k1.lt)
  go_upto_region 5 with fail
  rw [flagsOf_set] at O4
  replace k0 := k0.far (p := ⟨g, na, none⟩) hg0 (.bool true)
  replace k1 := k1.far (p := ⟨g, na, none⟩) hg1 (.bool true)
  replace hB : Hid (Below w.heap.size w (w3.setCell ⟨g, na, none⟩ (.bool true))) := Lib.hid (hB.out.setCell (p := ⟨g, na, none⟩) (by simp only; omega) _)
  have hz4 : (w3.setCell ⟨g, na, none⟩ (.bool true)).heap.size = w3.heap.size := by simp
  clear qg fg kg qk0 rk0 lk0 qk1 rk1 lk1 o3
  generalize (w3.setCell ⟨g, na, none⟩ (.bool true)) = W4 at k0 k1 hB hz4 O4 ⊢
  obtain ⟨g', cur', -, eg, -, kg, hc, hset⟩ := O4.out.openI (k := nb) (by rw [flagsOf_length]; exact hnb)
  injection eg with eg
  injection eg with eg
  subst eg
  have qg := kg.cell nb
  rw [hc] at qg
  have fg := kg.frozen nb
  have O5 := Lib.hid (hset true)
  clear hset hc
  (replace qk0 := k0.cell; replace rk0 := k0.frozen; replace lk0 := k0.lt; replace qk1 := k1.cell; replace rk1 := k1.frozen; replace lk1 := k1.lt)
  go_upto_region 6 with fail
  rw [flagsOf_set] at O5
  obtain ⟨S1, hS1⟩ : ∃ S1, S1 = (S0 ||| 1 <<< na) ||| 1 <<< nb := ⟨_, rfl⟩
  rw [← hS1] at O5 HE2
  replace k0 := k0.far (p := ⟨g, nb, none⟩) hg0 (.bool true)
  replace k1 := k1.far (p := ⟨g, nb, none⟩) hg1 (.bool true)
  replace hB : Hid (Below w.heap.size w (W4.setCell ⟨g, nb, none⟩ (.bool true))) := Lib.hid (hB.out.setCell (p := ⟨g, nb, none⟩) (by simp only; omega) _)
  have hz5 : (W4.setCell ⟨g, nb, none⟩ (.bool true)).heap.size = W4.heap.size := by simp
  clear qg fg kg qk0 rk0 lk0 qk1 rk1 lk1 O4 hS1
  generalize (W4.setCell ⟨g, nb, none⟩ (.bool true)) = W5 at k0 k1 hB hz5 O5 ⊢
  have T5 := Lib.hid (O5.out.reads)
  clear O5
  (replace qk0 := k0.cell; replace rk0 := k0.frozen; replace lk0 := k0.lt; replace qk1 := k1.cell; replace rk1 := k1.frozen; replace lk1 := k1.lt)
  go_upto_region 7 with fail
  have hbx : Below W5.heap.size W5 (W5.alloc (.cells #[.bool !fe, .int .i64 na, .int .i64 nb] tF)) := bbox (Below.refl _ _) _
  have kn : Blk (W5.alloc (.cells #[.bool !fe, .int .i64 na, .int .i64 nb] tF)) W5.heap.size tF #[.bool !fe, .int .i64 na, .int .i64 nb] := Blk.new _ _ _
  replace k0 := k0.next hbx
  have HB6 := Lib.hid (bgo hB.out hbx)
  have hz6 : (W5.alloc (.cells #[.bool !fe, .int .i64 na, .int .i64 nb] tF)).heap.size = W5.heap.size + 1 := by simp
  have T6 : Hid (BoolsV (W5.alloc (.cells #[.bool !fe, .int .i64 na, .int .i64 nb] tF)) w2.heap.size W5.heap.size (some ⟨g, 0, none⟩) (flagsOf S1)) := Lib.hid (by
    obtain ⟨A, c, e, h⟩ := T5.out
    injection e with e
    subst e
    exact h.below hbx)
  clear T5 hB hbx k1 qk0 rk0 lk0 qk1 rk1 lk1
  have h53 : W5.heap.size = w3.heap.size := by omega
  obtain ⟨xn, hxn⟩ : ∃ x, x = w3.heap.size := ⟨_, rfl⟩
  rw [h53, ← hxn] at kn hz6
  rw [← hxn]
  generalize (W5.alloc (.cells #[.bool !fe, .int .i64 na, .int .i64 nb] tF)) = W6 at k0 kn HB6 hz6 T6 ⊢
  have hln : xn < W6.heap.size := by omega
  have hz56 : W5.heap.size ≤ W6.heap.size := by omega
  clear hxn h53 hz6
  have hl0 := k0.lt
  have hwW : w.heap.size ≤ W6.heap.size := HB6.out.size
  have HATM := Lib.hid (fun (W : World) (hb : Below w.heap.size w W) => (show AtomsV W 0 (hi + W.heap.size) A2 a.atoms from (H2.out.below hb).mono (Nat.zero_le _) (by omega)))
  go_cut [7, 8] (fun s7 s8 wc => s8 = .bool (!(seek ⟨a.facts ++ [Fct.mk (!fe) na nb], a.atoms⟩ S1 8 opened).isEmpty) ∧ Hid (Below w.heap.size w wc))
  case first =>
    go_wp2_with fail
    refine wp_region_noPanic ?_
    refine wp_region_held_drew (S := (fun w' => (∀ i, w'.cell? ⟨w.heap.size, i, none⟩ = #[.slice A1 a.facts.length c1, .slice A2 a.atoms.length c2][i]?) ∧ (∀ i, w'.cell? ⟨xn, i, none⟩ = #[.bool !fe, .int .i64 na, .int .i64 nb][i]?))) (by kernel_rfl) (⟨k0.cell, kn.cell⟩) (fun hHeld => ?_)
    refine wpAnyH_take (i := 1) (v := ?_) rfl (by kernel_rfl) (by kernel_rfl) (by kernel_rfl) (fun _ _ _ h => h) (Or.inl ⟨by rfl, fun w hSw => ?_⟩) hHeld ?_
    rotate_left
    · ((try dsimp only at hSw); go_split_ands; go_simp; (try with_reducible rfl))
    try simp only [Act.put, List.getElem_toArray, List.getElem_cons_zero, List.getElem_cons_succ, List.setIfInBounds_toArray, List.set_cons_zero, List.set_cons_succ]
    refine wpAnyH_take (i := 2) (v := ?_) rfl (by kernel_rfl) (by kernel_rfl) (by kernel_rfl) (fun _ _ _ h => h) (Or.inl ⟨by rfl, fun w hSw => ?_⟩) hHeld ?_
    rotate_left
    · ((try dsimp only at hSw); go_split_ands; go_simp; (try with_reducible rfl))
    try simp only [Act.put, List.getElem_toArray, List.getElem_cons_zero, List.getElem_cons_succ, List.setIfInBounds_toArray, List.set_cons_zero, List.set_cons_succ]
    refine wpAnyH_take (i := 4) (v := ?_) rfl (by kernel_rfl) (by kernel_rfl) (by kernel_rfl) (fun _ _ _ h => h) (Or.inl ⟨by rfl, fun w hSw => ?_⟩) hHeld ?_
    rotate_left
    · ((try dsimp only at hSw); go_split_ands; go_simp; (try with_reducible rfl))
    try simp only [Act.put, List.getElem_toArray, List.getElem_cons_zero, List.getElem_cons_succ, List.setIfInBounds_toArray, List.set_cons_zero, List.set_cons_succ]
    refine wpAnyH_take (i := 7) (v := ?_) rfl (by kernel_rfl) (by kernel_rfl) (by kernel_rfl) (fun _ _ _ h => h) (Or.inl ⟨by rfl, fun w hSw => ?_⟩) hHeld ?_
    rotate_left
    · ((try dsimp only at hSw); go_split_ands; go_simp; (try with_reducible rfl))
    try simp only [Act.put, List.getElem_toArray, List.getElem_cons_zero, List.getElem_cons_succ, List.setIfInBounds_toArray, List.set_cons_zero, List.set_cons_succ]
    refine wpAnyH_take (i := 8) (v := ?_) rfl (by kernel_rfl) (by kernel_rfl) (by kernel_rfl) (fun _ _ _ h => h) (Or.inl ⟨by rfl, fun w hSw => ?_⟩) hHeld ?_
    rotate_left
    · ((try dsimp only at hSw); go_split_ands; go_simp; (try with_reducible rfl))
    try simp only [Act.put, List.getElem_toArray, List.getElem_cons_zero, List.getElem_cons_succ, List.setIfInBounds_toArray, List.set_cons_zero, List.set_cons_succ]
    refine wpAnyH_take (i := 10) (v := ?_) rfl (by kernel_rfl) (by kernel_rfl) (by kernel_rfl) (fun _ _ _ h => h) (Or.inl ⟨by rfl, fun w hSw => ?_⟩) hHeld ?_
    rotate_left
    · ((try dsimp only at hSw); go_split_ands; go_simp; (try with_reducible rfl))
    try simp only [Act.put, List.getElem_toArray, List.getElem_cons_zero, List.getElem_cons_succ, List.setIfInBounds_toArray, List.set_cons_zero, List.set_cons_succ]
    refine wpAnyH_ready (rs := [0, 5]) (by kernel_rfl) (by simp) ?_
    refine AllReadyH.cons rfl (fun K hK => ?_) (AllReadyH.cons rfl (fun K hK => ?_) (AllReadyH.nil))
    · skip
      try simp only [List.getElem_toArray, List.getElem_cons_zero, List.getElem_cons_succ]
      go_simp
      refine hK.out _ _ ⟨(rowB_ (show Below W6.heap.size W6 _ from bel) (by omega) k0.cell), (rowB_ (show Below W6.heap.size W6 _ from bel) (by omega) kn.cell)⟩ (fun hHeldN => ?_)
      clear hHeld hK K
      have hHeld := hHeldN
      clear hHeldN
      have hE : Hid (FactsO (W6.drew.alloc (.cells #[] tF)) W6.heap.size (.slice (some ⟨W6.heap.size, 0, none⟩) 0 0) []) := Lib.hid (FactsO.empty W6.drew)
      have hbE : Below W6.heap.size W6 (W6.drew.alloc (.cells #[] tF)) := bel
      have HBE := Lib.hid (HB6.out.trans (hbE.mono hwW))
      have TE := Lib.hid (T6.out.below hbE)
      have kE0 := k0.next hbE
      have kEn := kn.next hbE
      have zE : (W6.drew.alloc (.cells #[] tF)).heap.size = W6.heap.size + 1 := by simp
      refine wpAnyH_ready (rs := [3, 5]) (by kernel_rfl) (by simp) ?_
      refine AllReadyH.cons rfl (fun K hK => ?_) (AllReadyH.cons rfl (fun K hK => ?_) (AllReadyH.nil))
      · skip
        refine stepFL (ys := a.facts) (base := W6.heap.size) rfl _ _ rfl rfl hE.out rfl (H1.out.below (HBE.out)) (by simpa using Nat.le_of_succ_le hfl) (by first | omega | (simp; done) | (simp; omega)) ?_; intro A3 c3 w3x o3 hg3 hB3
        have kc0 := kE0.below hB3 (by omega)
        have kcn := kEn.below hB3 (by omega)
        have HBc0 := Lib.hid (HBE.out.trans (hB3.mono hwW))
        have Tc0 := Lib.hid (show BoolsV w3x w2.heap.size W5.heap.size (some ⟨g, 0, none⟩) (flagsOf S1) from Rd.keep TE.out fun b h1 h2 => hB3.block b (by omega))
        have z3x := hg3.size
        simp only [World.size_alloc, World.size_drew] at z3x
        have O3 := Lib.hid o3
        clear hg3 hB3 o3
        refine hK.out _ _ ⟨kc0.cell, kcn.cell⟩ (fun hHeldN => ?_)
        clear hHeld hK K
        have hHeld := hHeldN
        clear hHeldN
        refine wpAnyH_ready (rs := [5]) (by kernel_rfl) (by simp) ?_
        refine AllReadyH.cons rfl (fun K hK => ?_) AllReadyH.nil
        try simp only [List.getElem_toArray, List.getElem_cons_zero, List.getElem_cons_succ]
        go_simp
        refine hK.out _ _ (⟨(rowB_ (show Below w3x.heap.size w3x _ from bel) (by omega) kc0.cell), (rowB_ (show Below w3x.heap.size w3x _ from bel) (by omega) kcn.cell)⟩) (fun hHeldN => ?_)
        clear hHeld hK K
        have hHeld := hHeldN
        clear hHeldN
        try simp only [Act.put, List.getElem_toArray, List.getElem_cons_zero, List.getElem_cons_succ, List.setIfInBounds_toArray, List.set_cons_zero, List.set_cons_succ]
        have hbL : Below w3x.heap.size w3x (w3x.alloc (.cells #[.bool !fe, .int .i64 na, .int .i64 nb] tF)) := bbox (Below.refl _ _) _
        have k0c := kc0.next hbL
        have knc := kcn.next hbL
        have HBc := Lib.hid (bgo HBc0.out hbL)
        have Tc := Lib.hid (Tc0.out.below hbL)
        have OF := Lib.hid (O3.out.below hbL)
        have KL : Blk (w3x.alloc (.cells #[.bool !fe, .int .i64 na, .int .i64 nb] tF)) w3x.heap.size tF #[.bool !fe, .int .i64 na, .int .i64 nb] := Blk.new _ _ _
        clear hbL
        refine wpAnyH_ready (rs := [6]) (by kernel_rfl) (by simp) ?_
        refine AllReadyH.cons rfl (fun K hK => ?_) AllReadyH.nil
        skip
        (refine stepFL (ys := [Fct.mk (!fe) na nb]) (base := W6.heap.size) rfl _ _ rfl rfl OF.out rfl (FactsV.one (f := Fct.mk (!fe) na nb) KL) (by simpa using hfl) (by first | omega | (simp; done) | (simp; omega)) ?_; intro A6 c6 w6 o6 hg6 hB6; have ka := k0c.below hB6 hl0; have kb := knc.below hB6 hln; have HB7 := Lib.hid (HBc.out.trans (hB6.mono hwW)); have T7 := Lib.hid (show BoolsV w6 w2.heap.size W5.heap.size (some ⟨g, 0, none⟩) (flagsOf S1) from Rd.keep Tc.out fun b h1 h2 => hB6.block b (by omega)); have O6 := Lib.hid o6; have z6 := hg6.size; clear o6 hg6 hB6)
        refine hK.out _ _ (⟨ka.cell, kb.cell⟩) (fun hHeldN => ?_)
        clear hHeld hK K
        have hHeld := hHeldN
        clear hHeldN
        try simp only [Act.put, List.getElem_toArray, List.getElem_cons_zero, List.getElem_cons_succ, List.setIfInBounds_toArray, List.set_cons_zero, List.set_cons_succ]
        refine wpAnyH_take (i := 9) (v := ?_) rfl (by kernel_rfl) (by kernel_rfl) (by kernel_rfl) (fun _ _ _ h => h) (Or.inl ⟨by rfl, fun w hSw => ?_⟩) hHeld ?_
        rotate_left
        · ((try dsimp only at hSw); go_split_ands; go_simp; (try with_reducible rfl))
        try simp only [Act.put, List.getElem_toArray, List.getElem_cons_zero, List.getElem_cons_succ, List.setIfInBounds_toArray, List.set_cons_zero, List.set_cons_succ]
        refine wpAnyH_ready (rs := [11]) (by kernel_rfl) (by simp) ?_
        refine AllReadyH.cons rfl (fun K hK => ?_) AllReadyH.nil
        try simp only [List.getElem_toArray, List.getElem_cons_zero, List.getElem_cons_succ]
        (go_simp; refine (c_spec_l5Open _).mono ?_; rintro e w7 ⟨r7, rfl, o7, hB7⟩; obtain ⟨C7, d7, rfl, f7⟩ := o7.reads; have kc := ka.next hB7; have kd := kb.next hB7; have HB8 := Lib.hid (bgo HB7.out hB7); have T8 := Lib.hid (T7.out.below hB7); have O8 := Lib.hid (O6.out.below hB7); have F8 := Lib.hid f7; have z7 := hB7.size; clear hB7 o7 f7)
        refine hK.out _ _ (⟨kc.cell, kd.cell⟩) (fun hHeldN => ?_)
        clear hHeld hK K
        have hHeld := hHeldN
        clear hHeldN
        try simp only [Act.put, List.getElem_toArray, List.getElem_cons_zero, List.getElem_cons_succ, List.setIfInBounds_toArray, List.set_cons_zero, List.set_cons_succ]
        refine wpAnyH_ready (rs := [12]) (by kernel_rfl) (by simp) ?_
        refine AllReadyH.cons rfl (fun K hK => ?_) AllReadyH.nil
        try simp only [List.getElem_toArray, List.getElem_cons_zero, List.getElem_cons_succ]
        (go_simp; have hA8 : AsnV w7 0 (hi + w7.heap.size) (.agg #[.slice A6 (a.facts ++ [Fct.mk (!fe) na nb]).length c6, .slice A2 a.atoms.length c2]) ⟨a.facts ++ [Fct.mk (!fe) na nb], a.atoms⟩ := ⟨_, _, _, _, rfl, O8.out.readsI.2.mono (Nat.zero_le _) (by omega), (HATM.out _ HB8.out)⟩; have hcall := c_spec_l5FirstG (a := ⟨a.facts ++ [Fct.mk (!fe) na nb], a.atoms⟩) (S := S1) (some ⟨g, 0, none⟩) ct HOK HVL 8 opened C7 d7 _ _ w7 (by omega) rfl (openedB.2 _) openedB.1 hA8 T8.out F8.out; simp only [List.length_append, List.length_cons, List.length_nil, Nat.zero_add] at hcall; refine hcall.mono ?_; rintro e w8 ⟨r8, rfl, o8, hB8⟩; have ke := kc.next hB8; have kf := kd.next hB8; have HB9 := Lib.hid (bgo HB8.out hB8); clear hB8 o8 hcall hA8)
        refine hK.out _ _ (⟨ke.cell, kf.cell⟩) (fun hHeldN => ?_)
        clear hHeld hK K
        have hHeld := hHeldN
        clear hHeldN
        try simp only [Act.put, List.getElem_toArray, List.getElem_cons_zero, List.getElem_cons_succ, List.setIfInBounds_toArray, List.set_cons_zero, List.set_cons_succ]
        refine wpAnyH_take (i := 13) (v := ?_) rfl (by kernel_rfl) (by kernel_rfl) (by kernel_rfl) (fun _ _ _ h => h) (Or.inl ⟨by rfl, fun w hSw => ?_⟩) hHeld ?_
        rotate_left
        · ((try dsimp only at hSw); go_split_ands; go_simp; (try with_reducible rfl))
        try simp only [Act.put, List.getElem_toArray, List.getElem_cons_zero, List.getElem_cons_succ, List.setIfInBounds_toArray, List.set_cons_zero, List.set_cons_succ]
        refine wpAnyH_take (i := 14) (v := ?_) rfl (by kernel_rfl) (by kernel_rfl) (by kernel_rfl) (fun _ _ _ h => h) (Or.inl ⟨by rfl, fun w hSw => ?_⟩) hHeld ?_
        rotate_left
        · ((try dsimp only at hSw); go_split_ands; go_simp; (try with_reducible rfl))
        try simp only [Act.put, List.getElem_toArray, List.getElem_cons_zero, List.getElem_cons_succ, List.setIfInBounds_toArray, List.set_cons_zero, List.set_cons_succ]
        refine wpAnyH_take (i := 15) (v := ?_) rfl (by kernel_rfl) (by kernel_rfl) (by kernel_rfl) (fun _ _ _ h => h) (Or.inl ⟨by rfl, fun w hSw => ?_⟩) hHeld ?_
        rotate_left
        · ((try dsimp only at hSw); go_split_ands; go_simp; (try with_reducible rfl))
        try simp only [Act.put, List.getElem_toArray, List.getElem_cons_zero, List.getElem_cons_succ, List.setIfInBounds_toArray, List.set_cons_zero, List.set_cons_succ]
        refine wpAnyH_ready (rs := [16]) (by kernel_rfl) (by simp) ?_
        refine AllReadyH.cons rfl (fun K hK => ?_) AllReadyH.nil
        try simp only [List.getElem_toArray, List.getElem_cons_zero, List.getElem_cons_succ]
        go_simp
        refine hK.out _ _ (⟨ke.cell, kf.cell⟩) (fun hHeldN => ?_)
        clear hHeld hK K
        have hHeld := hHeldN
        clear hHeldN
        try simp only [Act.put, List.getElem_toArray, List.getElem_cons_zero, List.getElem_cons_succ, List.setIfInBounds_toArray, List.set_cons_zero, List.set_cons_succ]
        refine wpAnyH_ready (rs := [17]) (by kernel_rfl) (by simp) ?_
        refine AllReadyH.cons rfl (fun K hK => ?_) AllReadyH.nil
        try simp only [List.getElem_toArray, List.getElem_cons_zero, List.getElem_cons_succ]
        go_simp
        refine hK.out _ _ (⟨ke.cell, kf.cell⟩) (fun hHeldN => ?_)
        clear hHeld hK K
        have hHeld := hHeldN
        clear hHeldN
        try simp only [Act.put, List.getElem_toArray, List.getElem_cons_zero, List.getElem_cons_succ, List.setIfInBounds_toArray, List.set_cons_zero, List.set_cons_succ]
        refine wpAnyH_done (by kernel_rfl) ?_ _
        refine NoPanic.normal ?_
        go_wp2_with fail
        go_meet
        case rel => exact ⟨rfl, HB9⟩
      · skip
        try simp only [List.getElem_toArray, List.getElem_cons_zero, List.getElem_cons_succ]
        go_simp
        refine hK.out _ _ ⟨(rowB_ (show Below W6.heap.size W6 _ from bel) (by omega) k0.cell), (rowB_ (show Below W6.heap.size W6 _ from bel) (by omega) kn.cell)⟩ (fun hHeldN => ?_)
        clear hHeld hK K
        have hHeld := hHeldN
        clear hHeldN
        have hbL : Below (W6.drew.alloc (.cells #[] tF)).heap.size (W6.drew.alloc (.cells #[] tF)) ((W6.drew.alloc (.cells #[] tF)).alloc (.cells #[.bool !fe, .int .i64 na, .int .i64 nb] tF)) := bbox (Below.refl _ _) _
        have kL := Blk.new (W6.drew.alloc (.cells #[] tF)) tF #[.bool !fe, .int .i64 na, .int .i64 nb]
        have kL0 := kE0.next hbL
        have kLn := kEn.next hbL
        have HBL := Lib.hid (bgo HBE.out hbL)
        have TL := Lib.hid (TE.out.below hbL)
        have hL := Lib.hid (hE.out.below hbL)
        refine wpAnyH_ready (rs := [3]) (by kernel_rfl) (by simp) ?_
        refine AllReadyH.cons rfl (fun K hK => ?_) AllReadyH.nil
        skip
        (refine stepFL (ys := a.facts) (base := W6.heap.size) rfl _ _ rfl rfl hL.out rfl (H1.out.below (HBL.out)) (by simpa using Nat.le_of_succ_le hfl) (by first | omega | (simp; done) | (simp; omega)) ?_; intro A3 c3 w3x o3 hg3 hB3; have k0c := kL0.below hB3 (by omega); have knc := kLn.below hB3 (by omega); have HBc := Lib.hid (HBL.out.trans (hB3.mono hwW)); have Tc := Lib.hid (show BoolsV w3x w2.heap.size W5.heap.size (some ⟨g, 0, none⟩) (flagsOf S1) from Rd.keep TL.out fun b h1 h2 => hB3.block b (by omega)); have KL := kL.grown hg3 (fun e => by have e2 : (W6.drew.alloc (.cells #[] tF)).heap.size = W6.heap.size := Option.some.inj e; simp only [World.size_alloc, World.size_drew] at e2; omega); have z3x := hg3.size; have OF := Lib.hid o3; clear hg3 hB3 o3)
        refine hK.out _ _ (⟨k0c.cell, knc.cell⟩) (fun hHeldN => ?_)
        clear hHeld hK K
        have hHeld := hHeldN
        clear hHeldN
        try simp only [Act.put, List.getElem_toArray, List.getElem_cons_zero, List.getElem_cons_succ, List.setIfInBounds_toArray, List.set_cons_zero, List.set_cons_succ]
        simp only [World.size_alloc, World.size_drew] at KL z3x
        refine wpAnyH_ready (rs := [6]) (by kernel_rfl) (by simp) ?_
        refine AllReadyH.cons rfl (fun K hK => ?_) AllReadyH.nil
        skip
        (refine stepFL (ys := [Fct.mk (!fe) na nb]) (base := W6.heap.size) rfl _ _ rfl rfl OF.out rfl (FactsV.one (f := Fct.mk (!fe) na nb) KL) (by simpa using hfl) (by first | omega | (simp; done) | (simp; omega)) ?_; intro A6 c6 w6 o6 hg6 hB6; have ka := k0c.below hB6 hl0; have kb := knc.below hB6 hln; have HB7 := Lib.hid (HBc.out.trans (hB6.mono hwW)); have T7 := Lib.hid (show BoolsV w6 w2.heap.size W5.heap.size (some ⟨g, 0, none⟩) (flagsOf S1) from Rd.keep Tc.out fun b h1 h2 => hB6.block b (by omega)); have O6 := Lib.hid o6; have z6 := hg6.size; clear o6 hg6 hB6)
        refine hK.out _ _ (⟨ka.cell, kb.cell⟩) (fun hHeldN => ?_)
        clear hHeld hK K
        have hHeld := hHeldN
        clear hHeldN
        try simp only [Act.put, List.getElem_toArray, List.getElem_cons_zero, List.getElem_cons_succ, List.setIfInBounds_toArray, List.set_cons_zero, List.set_cons_succ]
        refine wpAnyH_take (i := 9) (v := ?_) rfl (by kernel_rfl) (by kernel_rfl) (by kernel_rfl) (fun _ _ _ h => h) (Or.inl ⟨by rfl, fun w hSw => ?_⟩) hHeld ?_
        rotate_left
        · ((try dsimp only at hSw); go_split_ands; go_simp; (try with_reducible rfl))
        try simp only [Act.put, List.getElem_toArray, List.getElem_cons_zero, List.getElem_cons_succ, List.setIfInBounds_toArray, List.set_cons_zero, List.set_cons_succ]
        refine wpAnyH_ready (rs := [11]) (by kernel_rfl) (by simp) ?_
        refine AllReadyH.cons rfl (fun K hK => ?_) AllReadyH.nil
        try simp only [List.getElem_toArray, List.getElem_cons_zero, List.getElem_cons_succ]
        (go_simp; refine (c_spec_l5Open _).mono ?_; rintro e w7 ⟨r7, rfl, o7, hB7⟩; obtain ⟨C7, d7, rfl, f7⟩ := o7.reads; have kc := ka.next hB7; have kd := kb.next hB7; have HB8 := Lib.hid (bgo HB7.out hB7); have T8 := Lib.hid (T7.out.below hB7); have O8 := Lib.hid (O6.out.below hB7); have F8 := Lib.hid f7; have z7 := hB7.size; clear hB7 o7 f7)
        refine hK.out _ _ (⟨kc.cell, kd.cell⟩) (fun hHeldN => ?_)
        clear hHeld hK K
        have hHeld := hHeldN
        clear hHeldN
        try simp only [Act.put, List.getElem_toArray, List.getElem_cons_zero, List.getElem_cons_succ, List.setIfInBounds_toArray, List.set_cons_zero, List.set_cons_succ]
        refine wpAnyH_ready (rs := [12]) (by kernel_rfl) (by simp) ?_
        refine AllReadyH.cons rfl (fun K hK => ?_) AllReadyH.nil
        try simp only [List.getElem_toArray, List.getElem_cons_zero, List.getElem_cons_succ]
        (go_simp; have hA8 : AsnV w7 0 (hi + w7.heap.size) (.agg #[.slice A6 (a.facts ++ [Fct.mk (!fe) na nb]).length c6, .slice A2 a.atoms.length c2]) ⟨a.facts ++ [Fct.mk (!fe) na nb], a.atoms⟩ := ⟨_, _, _, _, rfl, O8.out.readsI.2.mono (Nat.zero_le _) (by omega), (HATM.out _ HB8.out)⟩; have hcall := c_spec_l5FirstG (a := ⟨a.facts ++ [Fct.mk (!fe) na nb], a.atoms⟩) (S := S1) (some ⟨g, 0, none⟩) ct HOK HVL 8 opened C7 d7 _ _ w7 (by omega) rfl (openedB.2 _) openedB.1 hA8 T8.out F8.out; simp only [List.length_append, List.length_cons, List.length_nil, Nat.zero_add] at hcall; refine hcall.mono ?_; rintro e w8 ⟨r8, rfl, o8, hB8⟩; have ke := kc.next hB8; have kf := kd.next hB8; have HB9 := Lib.hid (bgo HB8.out hB8); clear hB8 o8 hcall hA8)
        refine hK.out _ _ (⟨ke.cell, kf.cell⟩) (fun hHeldN => ?_)
        clear hHeld hK K
        have hHeld := hHeldN
        clear hHeldN
        try simp only [Act.put, List.getElem_toArray, List.getElem_cons_zero, List.getElem_cons_succ, List.setIfInBounds_toArray, List.set_cons_zero, List.set_cons_succ]
        refine wpAnyH_take (i := 13) (v := ?_) rfl (by kernel_rfl) (by kernel_rfl) (by kernel_rfl) (fun _ _ _ h => h) (Or.inl ⟨by rfl, fun w hSw => ?_⟩) hHeld ?_
        rotate_left
        · ((try dsimp only at hSw); go_split_ands; go_simp; (try with_reducible rfl))
        try simp only [Act.put, List.getElem_toArray, List.getElem_cons_zero, List.getElem_cons_succ, List.setIfInBounds_toArray, List.set_cons_zero, List.set_cons_succ]
        refine wpAnyH_take (i := 14) (v := ?_) rfl (by kernel_rfl) (by kernel_rfl) (by kernel_rfl) (fun _ _ _ h => h) (Or.inl ⟨by rfl, fun w hSw => ?_⟩) hHeld ?_
        rotate_left
        · ((try dsimp only at hSw); go_split_ands; go_simp; (try with_reducible rfl))
        try simp only [Act.put, List.getElem_toArray, List.getElem_cons_zero, List.getElem_cons_succ, List.setIfInBounds_toArray, List.set_cons_zero, List.set_cons_succ]
        refine wpAnyH_take (i := 15) (v := ?_) rfl (by kernel_rfl) (by kernel_rfl) (by kernel_rfl) (fun _ _ _ h => h) (Or.inl ⟨by rfl, fun w hSw => ?_⟩) hHeld ?_
        rotate_left
        · ((try dsimp only at hSw); go_split_ands; go_simp; (try with_reducible rfl))
        try simp only [Act.put, List.getElem_toArray, List.getElem_cons_zero, List.getElem_cons_succ, List.setIfInBounds_toArray, List.set_cons_zero, List.set_cons_succ]
        refine wpAnyH_ready (rs := [16]) (by kernel_rfl) (by simp) ?_
        refine AllReadyH.cons rfl (fun K hK => ?_) AllReadyH.nil
        try simp only [List.getElem_toArray, List.getElem_cons_zero, List.getElem_cons_succ]
        go_simp
        refine hK.out _ _ (⟨ke.cell, kf.cell⟩) (fun hHeldN => ?_)
        clear hHeld hK K
        have hHeld := hHeldN
        clear hHeldN
        try simp only [Act.put, List.getElem_toArray, List.getElem_cons_zero, List.getElem_cons_succ, List.setIfInBounds_toArray, List.set_cons_zero, List.set_cons_succ]
        refine wpAnyH_ready (rs := [17]) (by kernel_rfl) (by simp) ?_
        refine AllReadyH.cons rfl (fun K hK => ?_) AllReadyH.nil
        try simp only [List.getElem_toArray, List.getElem_cons_zero, List.getElem_cons_succ]
        go_simp
        refine hK.out _ _ (⟨ke.cell, kf.cell⟩) (fun hHeldN => ?_)
        clear hHeld hK K
        have hHeld := hHeldN
        clear hHeldN
        try simp only [Act.put, List.getElem_toArray, List.getElem_cons_zero, List.getElem_cons_succ, List.setIfInBounds_toArray, List.set_cons_zero, List.set_cons_succ]
        refine wpAnyH_done (by kernel_rfl) ?_ _
        refine NoPanic.normal ?_
        go_wp2_with fail
        go_meet
        case rel => exact ⟨rfl, HB9⟩
    · skip
      try simp only [List.getElem_toArray, List.getElem_cons_zero, List.getElem_cons_succ]
      go_simp
      refine hK.out _ _ ⟨(rowB_ (show Below W6.heap.size W6 _ from bel) (by omega) k0.cell), (rowB_ (show Below W6.heap.size W6 _ from bel) (by omega) kn.cell)⟩ (fun hHeldN => ?_)
      clear hHeld hK K
      have hHeld := hHeldN
      clear hHeldN
      have kL := Blk.new W6.drew tF #[.bool !fe, .int .i64 na, .int .i64 nb]
      refine wpAnyH_ready (rs := [0]) (by kernel_rfl) (by simp) ?_
      refine AllReadyH.cons rfl (fun K hK => ?_) AllReadyH.nil
      try simp only [List.getElem_toArray, List.getElem_cons_zero, List.getElem_cons_succ]
      go_simp
      refine hK.out _ _ (⟨(rowB_ (show Below W6.heap.size W6 _ from bel) (by omega) k0.cell), (rowB_ (show Below W6.heap.size W6 _ from bel) (by omega) kn.cell)⟩) (fun hHeldN => ?_)
      clear hHeld hK K
      have hHeld := hHeldN
      clear hHeldN
      try simp only [Act.put, List.getElem_toArray, List.getElem_cons_zero, List.getElem_cons_succ, List.setIfInBounds_toArray, List.set_cons_zero, List.set_cons_succ]
      have hbE : Below W6.heap.size W6 ((W6.drew.alloc (.cells #[.bool !fe, .int .i64 na, .int .i64 nb] tF)).alloc (.cells #[] tF)) := bel
      have kE0 := k0.next hbE
      have kEn := kn.next hbE
      have kL2 := kL.alloc (.cells #[] tF)
      have HBE := Lib.hid (HB6.out.trans (hbE.mono hwW))
      have TE := Lib.hid (T6.out.below hbE)
      have hE : Hid (FactsO ((W6.drew.alloc (.cells #[.bool !fe, .int .i64 na, .int .i64 nb] tF)).alloc (.cells #[] tF)) W6.heap.size (.slice (some ⟨W6.heap.size + 1, 0, none⟩) 0 0) []) := Lib.hid (by
        have := (FactsO.empty (W6.drew.alloc (.cells #[.bool !fe, .int .i64 na, .int .i64 nb] tF))).lower (base' := W6.heap.size) (by simp)
        simpa using this)
      have zE : ((W6.drew.alloc (.cells #[.bool !fe, .int .i64 na, .int .i64 nb] tF)).alloc (.cells #[] tF)).heap.size = W6.heap.size + 2 := by simp
      refine wpAnyH_ready (rs := [3]) (by kernel_rfl) (by simp) ?_
      refine AllReadyH.cons rfl (fun K hK => ?_) AllReadyH.nil
      skip
      (refine stepFL (ys := a.facts) (base := W6.heap.size) rfl _ _ rfl rfl hE.out rfl (H1.out.below (HBE.out)) (by simpa using Nat.le_of_succ_le hfl) (by first | omega | (simp; done) | (simp; omega)) ?_; intro A3 c3 w3x o3 hg3 hB3; have k0c := kE0.below hB3 (by omega); have knc := kEn.below hB3 (by omega); have HBc := Lib.hid (HBE.out.trans (hB3.mono hwW)); have Tc := Lib.hid (show BoolsV w3x w2.heap.size W5.heap.size (some ⟨g, 0, none⟩) (flagsOf S1) from Rd.keep TE.out fun b h1 h2 => hB3.block b (by omega)); have KL := kL2.grown hg3 (fun e => by have e2 : W6.heap.size = W6.heap.size + 1 := Option.some.inj e; omega); have z3x := hg3.size; have OF := Lib.hid o3; clear hg3 hB3 o3)
      refine hK.out _ _ (⟨k0c.cell, knc.cell⟩) (fun hHeldN => ?_)
      clear hHeld hK K
      have hHeld := hHeldN
      clear hHeldN
      try simp only [Act.put, List.getElem_toArray, List.getElem_cons_zero, List.getElem_cons_succ, List.setIfInBounds_toArray, List.set_cons_zero, List.set_cons_succ]
      simp only [World.size_alloc, World.size_drew] at z3x
      simp only [World.size_drew] at KL
      refine wpAnyH_ready (rs := [6]) (by kernel_rfl) (by simp) ?_
      refine AllReadyH.cons rfl (fun K hK => ?_) AllReadyH.nil
      skip
      (refine stepFL (ys := [Fct.mk (!fe) na nb]) (base := W6.heap.size) rfl _ _ rfl rfl OF.out rfl (FactsV.one (f := Fct.mk (!fe) na nb) KL) (by simpa using hfl) (by first | omega | (simp; done) | (simp; omega)) ?_; intro A6 c6 w6 o6 hg6 hB6; have ka := k0c.below hB6 hl0; have kb := knc.below hB6 hln; have HB7 := Lib.hid (HBc.out.trans (hB6.mono hwW)); have T7 := Lib.hid (show BoolsV w6 w2.heap.size W5.heap.size (some ⟨g, 0, none⟩) (flagsOf S1) from Rd.keep Tc.out fun b h1 h2 => hB6.block b (by omega)); have O6 := Lib.hid o6; have z6 := hg6.size; clear o6 hg6 hB6)
      refine hK.out _ _ (⟨ka.cell, kb.cell⟩) (fun hHeldN => ?_)
      clear hHeld hK K
      have hHeld := hHeldN
      clear hHeldN
      try simp only [Act.put, List.getElem_toArray, List.getElem_cons_zero, List.getElem_cons_succ, List.setIfInBounds_toArray, List.set_cons_zero, List.set_cons_succ]
      refine wpAnyH_take (i := 9) (v := ?_) rfl (by kernel_rfl) (by kernel_rfl) (by kernel_rfl) (fun _ _ _ h => h) (Or.inl ⟨by rfl, fun w hSw => ?_⟩) hHeld ?_
      rotate_left
      · ((try dsimp only at hSw); go_split_ands; go_simp; (try with_reducible rfl))
      try simp only [Act.put, List.getElem_toArray, List.getElem_cons_zero, List.getElem_cons_succ, List.setIfInBounds_toArray, List.set_cons_zero, List.set_cons_succ]
      refine wpAnyH_ready (rs := [11]) (by kernel_rfl) (by simp) ?_
      refine AllReadyH.cons rfl (fun K hK => ?_) AllReadyH.nil
      try simp only [List.getElem_toArray, List.getElem_cons_zero, List.getElem_cons_succ]
      (go_simp; refine (c_spec_l5Open _).mono ?_; rintro e w7 ⟨r7, rfl, o7, hB7⟩; obtain ⟨C7, d7, rfl, f7⟩ := o7.reads; have kc := ka.next hB7; have kd := kb.next hB7; have HB8 := Lib.hid (bgo HB7.out hB7); have T8 := Lib.hid (T7.out.below hB7); have O8 := Lib.hid (O6.out.below hB7); have F8 := Lib.hid f7; have z7 := hB7.size; clear hB7 o7 f7)
      refine hK.out _ _ (⟨kc.cell, kd.cell⟩) (fun hHeldN => ?_)
      clear hHeld hK K
      have hHeld := hHeldN
      clear hHeldN
      try simp only [Act.put, List.getElem_toArray, List.getElem_cons_zero, List.getElem_cons_succ, List.setIfInBounds_toArray, List.set_cons_zero, List.set_cons_succ]
      refine wpAnyH_ready (rs := [12]) (by kernel_rfl) (by simp) ?_
      refine AllReadyH.cons rfl (fun K hK => ?_) AllReadyH.nil
      try simp only [List.getElem_toArray, List.getElem_cons_zero, List.getElem_cons_succ]
      (go_simp; have hA8 : AsnV w7 0 (hi + w7.heap.size) (.agg #[.slice A6 (a.facts ++ [Fct.mk (!fe) na nb]).length c6, .slice A2 a.atoms.length c2]) ⟨a.facts ++ [Fct.mk (!fe) na nb], a.atoms⟩ := ⟨_, _, _, _, rfl, O8.out.readsI.2.mono (Nat.zero_le _) (by omega), (HATM.out _ HB8.out)⟩; have hcall := c_spec_l5FirstG (a := ⟨a.facts ++ [Fct.mk (!fe) na nb], a.atoms⟩) (S := S1) (some ⟨g, 0, none⟩) ct HOK HVL 8 opened C7 d7 _ _ w7 (by omega) rfl (openedB.2 _) openedB.1 hA8 T8.out F8.out; simp only [List.length_append, List.length_cons, List.length_nil, Nat.zero_add] at hcall; refine hcall.mono ?_; rintro e w8 ⟨r8, rfl, o8, hB8⟩; have ke := kc.next hB8; have kf := kd.next hB8; have HB9 := Lib.hid (bgo HB8.out hB8); clear hB8 o8 hcall hA8)
      refine hK.out _ _ (⟨ke.cell, kf.cell⟩) (fun hHeldN => ?_)
      clear hHeld hK K
      have hHeld := hHeldN
      clear hHeldN
      try simp only [Act.put, List.getElem_toArray, List.getElem_cons_zero, List.getElem_cons_succ, List.setIfInBounds_toArray, List.set_cons_zero, List.set_cons_succ]
      refine wpAnyH_take (i := 13) (v := ?_) rfl (by kernel_rfl) (by kernel_rfl) (by kernel_rfl) (fun _ _ _ h => h) (Or.inl ⟨by rfl, fun w hSw => ?_⟩) hHeld ?_
      rotate_left
      · ((try dsimp only at hSw); go_split_ands; go_simp; (try with_reducible rfl))
      try simp only [Act.put, List.getElem_toArray, List.getElem_cons_zero, List.getElem_cons_succ, List.setIfInBounds_toArray, List.set_cons_zero, List.set_cons_succ]
      refine wpAnyH_take (i := 14) (v := ?_) rfl (by kernel_rfl) (by kernel_rfl) (by kernel_rfl) (fun _ _ _ h => h) (Or.inl ⟨by rfl, fun w hSw => ?_⟩) hHeld ?_
      rotate_left
      · ((try dsimp only at hSw); go_split_ands; go_simp; (try with_reducible rfl))
      try simp only [Act.put, List.getElem_toArray, List.getElem_cons_zero, List.getElem_cons_succ, List.setIfInBounds_toArray, List.set_cons_zero, List.set_cons_succ]
      refine wpAnyH_take (i := 15) (v := ?_) rfl (by kernel_rfl) (by kernel_rfl) (by kernel_rfl) (fun _ _ _ h => h) (Or.inl ⟨by rfl, fun w hSw => ?_⟩) hHeld ?_
      rotate_left
      · ((try dsimp only at hSw); go_split_ands; go_simp; (try with_reducible rfl))
      try simp only [Act.put, List.getElem_toArray, List.getElem_cons_zero, List.getElem_cons_succ, List.setIfInBounds_toArray, List.set_cons_zero, List.set_cons_succ]
      refine wpAnyH_ready (rs := [16]) (by kernel_rfl) (by simp) ?_
      refine AllReadyH.cons rfl (fun K hK => ?_) AllReadyH.nil
      try simp only [List.getElem_toArray, List.getElem_cons_zero, List.getElem_cons_succ]
      go_simp
      refine hK.out _ _ (⟨ke.cell, kf.cell⟩) (fun hHeldN => ?_)
      clear hHeld hK K
      have hHeld := hHeldN
      clear hHeldN
      try simp only [Act.put, List.getElem_toArray, List.getElem_cons_zero, List.getElem_cons_succ, List.setIfInBounds_toArray, List.set_cons_zero, List.set_cons_succ]
      refine wpAnyH_ready (rs := [17]) (by kernel_rfl) (by simp) ?_
      refine AllReadyH.cons rfl (fun K hK => ?_) AllReadyH.nil
      try simp only [List.getElem_toArray, List.getElem_cons_zero, List.getElem_cons_succ]
      go_simp
      refine hK.out _ _ (⟨ke.cell, kf.cell⟩) (fun hHeldN => ?_)
      clear hHeld hK K
      have hHeld := hHeldN
      clear hHeldN
      try simp only [Act.put, List.getElem_toArray, List.getElem_cons_zero, List.getElem_cons_succ, List.setIfInBounds_toArray, List.set_cons_zero, List.set_cons_succ]
      refine wpAnyH_done (by kernel_rfl) ?_ _
      refine NoPanic.normal ?_
      go_wp2_with fail
      go_meet
      case rel => exact ⟨rfl, HB9⟩
  case rest =>
    obtain ⟨rfl, HB9⟩ := hcut
    rw [← HE2.out]
    go_wp2_with fail
    go_ret
    exact ⟨ret_bool (by simp), HB9.out⟩
--@
end Go.Proofs.Ytlmjjflalmegfaa
