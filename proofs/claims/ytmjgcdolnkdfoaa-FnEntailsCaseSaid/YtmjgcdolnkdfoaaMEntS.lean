/- Contracts: impl's EntailsCase at a case. -/
import Derived.Test.YtmjgcdolnkdfoaaMFailH
import Derived.Test.YtmjgcdolnkdfoaaPar
import Derived.Test.YtmjgcdolnkdfoaaMCanon
set_option linter.unusedSimpArgs false
set_option linter.unusedVariables false
namespace Go.Proofs.Ytmjgcdolnkdfoaa
open Go Go.RowKit Go.Proofs
attribute [local go_sem ↓] Go.wp_at_zero Go.wp_at_succ

theorem gen_idem (S : Nat) : ∀ (n : Nat) (c d : List Int), n ≤ 9 → c.length = 9 → d ∈ gen S n c → ∀ j : Nat, 9 - n ≤ j → j < 9 → S.testBit j = true → cl d (cl d j) = cl d j := by
  intro n
  induction n with
  | zero => intro c d _ _ _ j h1 h2; omega
  | succ n ih =>
    intro c d hn hc hd j h1 h2 hj
    unfold gen at hd
    cases e : S.testBit (8 - n)
    · rw [e] at hd
      simp only [Bool.false_eq_true, if_false] at hd
      by_cases ej : j = 8 - n
      · subst ej; rw [e] at hj; cases hj
      · exact ih _ _ (by omega) (by simpa using hc) hd j (by omega) h2 hj
    · rw [e, if_pos rfl, List.mem_flatMap] at hd
      obtain ⟨k, hk, hd⟩ := hd
      rw [List.mem_range] at hk
      split at hd
      · cases hd
      · rename_i hne
        by_cases ej : j = 8 - n
        · have hA := (gen_ok S n _ _ (by omega) (by simpa using hc) hd).2.1
          have e1 : cl d (j : Int) = k := by rw [hA j (by omega) (by omega), cl_set hc (by omega) _ (by omega), if_pos (by omega)]
          rw [e1, hA k (by omega) (by omega), cl_set hc (by omega) _ (by omega)]
          split
          · rfl
          · rename_i hkn
            by_cases h3 : cl c k = k
            · exact h3
            · exact absurd ⟨by omega, h3⟩ hne
        · exact ih _ _ (by omega) (by simpa using hc) hd j (by omega) h2 hj

--@ impl.readCase
set_option maxRecDepth 100000 in
set_option maxHeartbeats 6400000 in
theorem c_impl_readCase {lo hi lo' hi' : Nat} (v : Value) (a : Asn) (F : Nat) (cs : List Int) (A : Option Addr) (c : Nat) (w : World) (h : AsnV w lo hi v a) (hA : IntsV w lo' hi' A cs) (hv : a.valid = true) (hF : F < 512) (hcs : cs ∈ cases a (caseS a F)) :
    Calls Try.prog 90 #[v, .int .u16 F, .slice A cs.length c] w fun e w' => e = .returned (.tuple #[.agg (case9 cs), .bool true]) ∧ Below w.heap.size w w' := by
  have hV := Lib.hid h
  have HX := Lib.hid hA
  obtain ⟨A1, c1, A2, c2, rfl, -, -⟩ := h
  have hgen : cs ∈ gen (caseS a F) 9 zeros := (List.mem_filter.1 hcs).1
  have hfull : full a cs = true := (List.mem_filter.1 hcs).2
  have hok := Asn.valid_ok hv
  have H9 : Hid (cs.length = 9) := (gen_ok _ 9 zeros cs (by omega) rfl hgen).1
  have HG : Hid (∀ j : Nat, j < 9 → ((caseS a F).testBit j = true → 0 ≤ cl cs j ∧ cl cs j ≤ j) ∧ ((caseS a F).testBit j = false → cl cs j = -1)) := fun j hj => (gen_ok _ 9 zeros cs (by omega) rfl hgen).2.2 j (by omega) hj
  have HI : Hid (∀ j : Nat, j < 9 → (caseS a F).testBit j = true → cl cs (cl cs j) = cl cs j) := fun j hj hb => gen_idem _ 9 zeros cs (by omega) rfl hgen j (by omega) hj hb
  have HP : Hid (poss a cs 8 = true) := by show _ = _; rw [← full_poss hok.1 hok.2]; exact hfull
  have HOK := Lib.hid hok
  have HT := Lib.hid (caseS_terms hv F)
  have hT := tset_lt (termsL a)
  have hT2 := tins_lt hT 0
  have hU := u16_or_nat (tins (tset (termsL a)) 0) F (by omega) (by omega)
  have hSlt : caseS a F < 512 := caseS_lt hF
  have hn9 : ((cs.length : Int) != 9) = false := by have := H9.out; simp; omega
  have HCS : Hid (tins (tset (termsL a)) 0 ||| F = caseS a F) := rfl
  clear hgen hfull hok hcs hA
  go_enter Try.func90, Try.ntmps90
  have k0 : Blk (((w.alloc (.cells #[.slice A1 a.facts.length c1, .slice A2 a.atoms.length c2] tAs)).alloc (.cells (case9 zeros) tC)).alloc (.cells (case9 zeros) tC)) w.heap.size tAs #[.slice A1 a.facts.length c1, .slice A2 a.atoms.length c2] := blks
  have k1 : Blk (((w.alloc (.cells #[.slice A1 a.facts.length c1, .slice A2 a.atoms.length c2] tAs)).alloc (.cells (case9 zeros) tC)).alloc (.cells (case9 zeros) tC)) (w.heap.size + 1) tC (case9 zeros) := blks
  have k2 : Blk (((w.alloc (.cells #[.slice A1 a.facts.length c1, .slice A2 a.atoms.length c2] tAs)).alloc (.cells (case9 zeros) tC)).alloc (.cells (case9 zeros) tC)) (w.heap.size + 1 + 1) tC (case9 zeros) := blks
  go_wp2_with fail
  refine (c_impl_termsIn _ a _ (hV.out.below bel)).mono ?_
  rintro e w1 ⟨rfl, hB1⟩
  have hB := bgo (w := w) bel hB1
  replace k0 := Blk.next k0 hB1
  replace k1 := Blk.next k1 hB1
  replace k2 := Blk.next k2 hB1
  clear hB1
  go_wp2_with fail
  refine (c_impl_with _ 0 _ hT).mono ?_
  rintro e w2 ⟨rfl, rfl⟩
  obtain ⟨S, hSe⟩ : ∃ S, S = caseS a F := ⟨_, rfl⟩
  have HB := Lib.hid hB
  rw [HCS.out, ← hSe] at hU
  rw [← hSe] at HG HI HT hSlt
  clear hB HCS hSe
  (replace qk0 := k0.cell; replace rk0 := k0.frozen; replace lk0 := k0.lt)
  go_wp2_with fail
  try rw [hU]
  clear hU hT hT2
  go_loopw [23] (fun i wr => ∃ (k : Nat) (d : List Int), k ≤ 9 ∧ i = .int .i64 k ∧ Hid (d.length = 9 ∧ ∀ j : Nat, j < k → cl d j = cl cs j) ∧ Blk wr w.heap.size tAs #[.slice A1 a.facts.length c1, .slice A2 a.atoms.length c2] ∧ Blk wr (w.heap.size + 1) tC (case9 zeros) ∧ Blk wr (w.heap.size + 1 + 1) tC (case9 d) ∧ Hid (Below w.heap.size w wr)) (fun i _ => 9 - (intOf i).toNat)
  case atStart => exact ⟨0, zeros, by omega, rfl, ⟨rfl, fun j hj => by omega⟩, k0, k1, k2, HB.out⟩
  case round =>
    clear k0 k1 k2 HB qk0 rk0 lk0
    obtain ⟨k, d, hk, rfl, HD, k0, k1, k2, HB⟩ := hrel
    have hll : Hid ((cs.length : Int) = 9) := by show _ = _; have := H9.out; omega
    by_cases hk9 : k < 9
    · have hki : (k : Int) < (cs.length : Int) := by have := hll.out; omega
      have hki9 : (k : Int) < 9 := by omega
      have hkl : k < cs.length := by have := H9.out; omega
      obtain ⟨b, off, e, cx⟩ := (HX.out.below HB.out).at hkl
      subst e
      have hclk : cl cs k = cs[k] := by unfold cl; rw [Int.toNat_natCast, List.getElem?_eq_getElem hkl]; rfl
      obtain ⟨x, hx⟩ : ∃ x, x = cs[k] := ⟨_, rfl⟩
      rw [← hx] at cx hclk
      have HGK := Lib.hid (HG.out k hk9)
      have HIK := Lib.hid (HI.out k hk9)
      rw [hclk] at HGK HIK
      have HCK := Lib.hid hclk
      have qm : wr.cell? ⟨w.heap.size + 1 + 1, k, none⟩ = some (.int .i64 (cl d k)) := case_cell (k2.case HD.out.1) (by rw [HD.out.1]; omega)
      have r2 := k2.frozen
      have l2 := k2.lt
      have k2' := k2.caseSet HD.out.1 k x
      have k0' := k0.far (p := ⟨w.heap.size + 1 + 1, k, none⟩) (by simp only; omega) (.int .i64 x)
      have k1' := k1.far (p := ⟨w.heap.size + 1 + 1, k, none⟩) (by simp only; omega) (.int .i64 x)
      have HB' : Hid (Below w.heap.size w (wr.setCell ⟨w.heap.size + 1 + 1, k, none⟩ (.int .i64 x))) := HB.out.setCell (p := ⟨w.heap.size + 1 + 1, k, none⟩) (by simp only; omega) _
      have HDS : Hid ((d.set k x).length = 9 ∧ ∀ j : Nat, j < k + 1 → cl (d.set k x) j = cl cs j) := by
        refine ⟨by simpa using HD.out.1, fun j hj => ?_⟩
        rw [cl_set HD.out.1 hk9 _ (by omega)]
        split
        · rename_i e; rw [HCK.out.symm]; congr 1; omega
        · exact HD.out.2 j (by omega)
      clear hx hclk hkl
      go_wp2_with fail
      refine (c_impl_tHas S (k : Int) _ hSlt).mono ?_
      rintro e w3 ⟨rfl, rfl⟩
      rw [show isTermB (k : Int) = true from isTermB_iff.2 (by omega), Int.toNat_natCast, Bool.true_and]
      generalize (wr.setCell ⟨w.heap.size + 1 + 1, k, none⟩ (.int .i64 x)) = W3 at k2' k0' k1' HB' ⊢
      clear k0 k1 k2 HB qm r2 l2 cx
      cases hb : S.testBit k
      · have hx1 : x = -1 := HGK.out.2 hb
        have hx2 : (x != -1) = false := by simp [hx1]
        clear hb hx1
        go_wp2_with fail
        go_round
        case rel => exact ⟨k + 1, d.set k x, by omega, by go_num, HDS.out, k0', k1', k2', HB'⟩
        case measure => simp [intOf]; omega
      · have hx1 := HGK.out.1 hb
        have hidem := HIK.out hb
        clear hb
        obtain ⟨xn, rfl⟩ := Int.eq_ofNat_of_zero_le hx1.1
        have hxk : ¬ ((k : Int) < (xn : Int)) := by omega
        have hx0 : ¬ ((xn : Int) < 0) := by omega
        have hx9 : (xn : Int) < 9 := by omega
        have qx : W3.cell? ⟨w.heap.size + 1 + 1, xn, none⟩ = some (.int .i64 (cl (d.set k (xn : Int)) xn)) := case_cell (k2'.case HDS.out.1) (by rw [HDS.out.1]; omega)
        rw [HDS.out.2 xn (by omega), hidem] at qx
        have hxx : ((xn : Int) != (xn : Int)) = false := by simp
        clear hidem hx1
        go_wp2_with fail
        go_round
        case rel => exact ⟨k + 1, d.set k (xn : Int), by omega, by go_num, HDS.out, k0', k1', k2', HB'⟩
        case measure => simp [intOf]; omega
    · obtain rfl : k = 9 := by omega
      have hkn : ¬ ((9 : Int) < (cs.length : Int)) := by have := hll.out; omega
      obtain rfl : d = cs := by
        apply List.ext_getElem (by rw [HD.out.1, H9.out])
        intro j h1 h2
        have := HD.out.2 j (by have := HD.out.1; omega)
        simpa [cl, List.getElem?_eq_getElem h1, List.getElem?_eq_getElem h2] using this
      have hlen9 : (d.length : Int) = 9 := hll.out
      have hB := HB.out
      have HCLS : Hid (∀ x ∈ a.atoms, x.a ≤ 8 → isTermB (cl d x.a) = true) := by
        intro x hx h8
        have h1 := (HOK.out.2 x hx).1
        have h2 : x.a ∈ termsL a := by
          simp only [termsL, List.mem_append, List.mem_flatMap]
          exact Or.inr ⟨x, hx, by simp [atomT]⟩
        have h3 := (HG.out x.a.toNat (by omega)).1 (HT.out _ h2)
        rw [show ((x.a.toNat : Nat) : Int) = x.a from Int.toNat_of_nonneg h1.1] at h3
        rw [isTermB_iff]
        omega
      have k9 := Lib.hid (k2.case H9.out)
      have hBd : Below w.heap.size w wr.drew := hB.drew
      obtain ⟨q0, q1, q2, q3, q4, q5, q6, q7, q8⟩ := case9_cells k2
      have hne : w.heap.size + 1 ≠ w.heap.size + 1 + 1 := by omega
      (replace qk0 := k0.cell; replace rk0 := k0.frozen; replace lk0 := k0.lt)
      go_wp2_with fail
      refine wp_region_noPanic ?_
      refine wp_region_held_drew (S := (fun w' => (∀ i, w'.cell? ⟨w.heap.size + 1 + 1, i, none⟩ = (case9 d)[i]?) ∧ (∀ i, w'.cell? ⟨w.heap.size, i, none⟩ = #[.slice A1 a.facts.length c1, .slice A2 a.atoms.length c2][i]?))) (by kernel_rfl) (⟨k2.drew.cell, k0.drew.cell⟩) (fun hHeld => ?_)
      refine wpAnyH_take (i := 0) (v := ?_) rfl (by kernel_rfl) (by kernel_rfl) (by kernel_rfl) (fun _ _ _ h => h) (Or.inl ⟨by rfl, fun w hSw => ?_⟩) hHeld ?_
      rotate_left
      · ((try dsimp only at hSw); go_split_ands; go_simp; (try with_reducible rfl))
      try simp only [Act.put, List.getElem_toArray, List.getElem_cons_zero, List.getElem_cons_succ, List.setIfInBounds_toArray, List.set_cons_zero, List.set_cons_succ]
      refine wpAnyH_take (i := 1) (v := ?_) rfl (by kernel_rfl) (by kernel_rfl) (by kernel_rfl) (fun _ _ _ h => h) (Or.inl ⟨by rfl, fun w hSw => ?_⟩) hHeld ?_
      rotate_left
      · ((try dsimp only at hSw); go_split_ands; go_simp; (try with_reducible rfl))
      try simp only [Act.put, List.getElem_toArray, List.getElem_cons_zero, List.getElem_cons_succ, List.setIfInBounds_toArray, List.set_cons_zero, List.set_cons_succ]
      refine wpAnyH_ready (rs := [2]) (by kernel_rfl) (by simp) ?_
      refine AllReadyH.cons rfl (fun K hK => ?_) AllReadyH.nil
      try simp only [List.getElem_toArray, List.getElem_cons_zero, List.getElem_cons_succ]
      (go_simp; refine (c_impl_possible _ a 8 d (w.heap.size + 1 + 1) _ (hV.out.below hBd) k9.out.drew H9.out HOK.out.1 HOK.out.2 HCLS.out).mono ?_; rintro e w4 ⟨rfl, hB4⟩; rw [HP.out]; have k04 := k0.drew.next hB4; have k14 := k1.drew.next hB4; have k24 := k2.drew.next hB4; have HB4 := Lib.hid (bgo hBd hB4))
      refine hK.out _ _ (⟨k24.cell, k04.cell⟩) (fun hHeldN => ?_)
      clear hHeld hK K
      have hHeld := hHeldN
      clear hHeldN
      try simp only [Act.put, List.getElem_toArray, List.getElem_cons_zero, List.getElem_cons_succ, List.setIfInBounds_toArray, List.set_cons_zero, List.set_cons_succ]
      clear q0 q1 q2 q3 q4 q5 q6 q7 q8
      obtain ⟨z0, z1, z2, z3, z4, z5, z6, z7, z8⟩ := case9_cells k14
      have r14 := k14.frozen
      have l14 := k14.lt
      refine wpAnyH_ready (rs := [3]) (by kernel_rfl) (by simp) ?_
      refine AllReadyH.cons rfl (fun K hK => ?_) AllReadyH.nil
      try simp only [List.getElem_toArray, List.getElem_cons_zero, List.getElem_cons_succ]
      go_simp
      refine hK.out _ _ (⟨(k24.nineFar (by omega)).cell, (k04.nineFar (by omega)).cell⟩) (fun hHeldN => ?_)
      clear hHeld hK K
      have hHeld := hHeldN
      clear hHeldN
      try simp only [Act.put, List.getElem_toArray, List.getElem_cons_zero, List.getElem_cons_succ, List.setIfInBounds_toArray, List.set_cons_zero, List.set_cons_succ]
      refine wpAnyH_take (i := 4) (v := ?_) rfl (by kernel_rfl) (by kernel_rfl) (by kernel_rfl) (fun _ _ _ h => h) (Or.inl ⟨by rfl, fun w hSw => ?_⟩) hHeld ?_
      rotate_left
      · ((try dsimp only at hSw); go_split_ands; go_simp; (try with_reducible rfl))
      try simp only [Act.put, List.getElem_toArray, List.getElem_cons_zero, List.getElem_cons_succ, List.setIfInBounds_toArray, List.set_cons_zero, List.set_cons_succ]
      refine wpAnyH_done (by kernel_rfl) ?_ _
      refine NoPanic.normal ?_
      have kR := Blk.nine (v0 := .int .i64 (cl d 0)) (v1 := .int .i64 (cl d 1)) (v2 := .int .i64 (cl d 2)) (v3 := .int .i64 (cl d 3)) (v4 := .int .i64 (cl d 4)) (v5 := .int .i64 (cl d 5)) (v6 := .int .i64 (cl d 6)) (v7 := .int .i64 (cl d 7)) (v8 := .int .i64 (cl d 8)) k14
      have hBR := below9 (g := w.heap.size + 1) (v0 := .int .i64 (cl d 0)) (v1 := .int .i64 (cl d 1)) (v2 := .int .i64 (cl d 2)) (v3 := .int .i64 (cl d 3)) (v4 := .int .i64 (cl d 4)) (v5 := .int .i64 (cl d 5)) (v6 := .int .i64 (cl d 6)) (v7 := .int .i64 (cl d 7)) (v8 := .int .i64 (cl d 8)) HB4.out (by omega)
      obtain ⟨V, hVe⟩ : ∃ V, V = (set9 w4 (w.heap.size + 1) (.int .i64 (cl d 0)) (.int .i64 (cl d 1)) (.int .i64 (cl d 2)) (.int .i64 (cl d 3)) (.int .i64 (cl d 4)) (.int .i64 (cl d 5)) (.int .i64 (cl d 6)) (.int .i64 (cl d 7)) (.int .i64 (cl d 8))) := ⟨_, rfl⟩
      show Exit.then _ _ Exit.normal _ (set9 w4 (w.heap.size + 1) (.int .i64 (cl d 0)) (.int .i64 (cl d 1)) (.int .i64 (cl d 2)) (.int .i64 (cl d 3)) (.int .i64 (cl d 4)) (.int .i64 (cl d 5)) (.int .i64 (cl d 6)) (.int .i64 (cl d 7)) (.int .i64 (cl d 8)))
      rw [← hVe] at kR hBR ⊢
      have kR' : Blk V (w.heap.size + 1) tC (case9 d) := kR
      obtain ⟨p0, p1, p2, p3, p4, p5, p6, p7, p8⟩ := case9_cells kR'
      clear hVe kR k14 z0 z1 z2 z3 z4 z5 z6 z7 z8 r14 l14
      go_wp2_with fail
      exact bodyPost_ret (v := .tuple #[.agg (case9 d), .bool true]) (by simp [results, Try.results90, go_sem, p0, p1, p2, p3, p4, p5, p6, p7, p8]) rfl ⟨rfl, hBR⟩

--@ impl.EntailsCase
set_option maxRecDepth 100000 in
set_option maxHeartbeats 6400000 in
theorem c_impl_EntailsCase {lo hi lo' hi' lo2 hi2 : Nat} (v v' : Value) (a b : Asn) (cs : List Int) (A : Option Addr) (c : Nat) (w : World) (h : AsnV w lo hi v a) (h' : AsnV w lo' hi' v' b) (hA : IntsV w lo2 hi2 A cs) (ha : a.valid = true) (hb : b.valid = true) (hcs : cs ∈ cases a (caseS a (tset (termsL b)))) :
    Calls Try.prog 21 #[v, v', .slice A cs.length c] w fun e w' => e = .returned (.bool (entB a b cs)) ∧ Below w.heap.size w w' := by
  have hV := Lib.hid h
  have hV' := Lib.hid h'
  have HX := Lib.hid hA
  obtain ⟨A1, c1, A2, c2, rfl, -, -⟩ := h
  obtain ⟨A3, c3, A4, c4, rfl, -, -⟩ := h'
  have HA := Lib.hid ha
  have HBV := Lib.hid hb
  have HCS := Lib.hid hcs
  have H9 : Hid (cs.length = 9) := (gen_ok _ 9 zeros cs (by omega) rfl (List.mem_filter.1 hcs).1).1
  have hTb := tset_lt (termsL b)
  clear ha hb hcs hA
  go_enter Try.func21, Try.ntmps21
  have k0 : Blk ((w.alloc (.cells #[.slice A1 a.facts.length c1, .slice A2 a.atoms.length c2] tAs)).alloc (.cells #[.slice A3 b.facts.length c3, .slice A4 b.atoms.length c4] tAs)) w.heap.size tAs #[.slice A1 a.facts.length c1, .slice A2 a.atoms.length c2] := blks
  have k1 : Blk ((w.alloc (.cells #[.slice A1 a.facts.length c1, .slice A2 a.atoms.length c2] tAs)).alloc (.cells #[.slice A3 b.facts.length c3, .slice A4 b.atoms.length c4] tAs)) (w.heap.size + 1) tAs #[.slice A3 b.facts.length c3, .slice A4 b.atoms.length c4] := blks
  go_wp2_with fail
  refine (c_impl_AssertionValid _ a _ (hV.out.below bel)).mono ?_
  rintro e w1 ⟨rfl, hB1⟩
  rw [HA.out]
  have hB : Below w.heap.size w w1 := bgo (w := w) bel hB1
  (replace k0 := k0.next hB1; replace qk0 := k0.cell; replace rk0 := k0.frozen; replace lk0 := k0.lt; replace k1 := k1.next hB1; replace qk1 := k1.cell; replace rk1 := k1.frozen; replace lk1 := k1.lt)
  clear hB1
  go_wp2_with fail
  refine (c_impl_AssertionValid _ b _ (hV'.out.below hB)).mono ?_
  rintro e w2 ⟨rfl, hB2⟩
  rw [HBV.out]
  (replace hB := bgo hB hB2; replace k0 := k0.next hB2; replace qk0 := k0.cell; replace rk0 := k0.frozen; replace lk0 := k0.lt; replace k1 := k1.next hB2; replace qk1 := k1.cell; replace rk1 := k1.frozen; replace lk1 := k1.lt)
  clear hB2
  obtain ⟨T, hTe⟩ : ∃ T, T = tset (termsL b) := ⟨_, rfl⟩
  have HTE := Lib.hid hTe
  rw [← hTe] at HCS hTb
  clear hTe
  go_wp2_with fail
  refine wp_region_noPanic ?_
  refine wp_region_held_drew (S := (fun w' => (∀ i, w'.cell? ⟨w.heap.size, i, none⟩ = #[.slice A1 a.facts.length c1, .slice A2 a.atoms.length c2][i]?) ∧ (∀ i, w'.cell? ⟨w.heap.size + 1, i, none⟩ = #[.slice A3 b.facts.length c3, .slice A4 b.atoms.length c4][i]?))) (by kernel_rfl) (⟨Blk.cell blks, Blk.cell blks⟩) (fun hHeld => ?_)
  refine wpAnyH_take (i := 0) (v := ?_) rfl (by kernel_rfl) (by kernel_rfl) (by kernel_rfl) (fun _ _ _ h => h) (Or.inl ⟨by rfl, fun w hSw => ?_⟩) hHeld ?_
  rotate_left
  · ((try dsimp only at hSw); go_split_ands; go_simp; (try with_reducible rfl))
  try simp only [Act.put, List.getElem_toArray, List.getElem_cons_zero, List.getElem_cons_succ, List.setIfInBounds_toArray, List.set_cons_zero, List.set_cons_succ]
  refine wpAnyH_take (i := 1) (v := ?_) rfl (by kernel_rfl) (by kernel_rfl) (by kernel_rfl) (fun _ _ _ h => h) (Or.inl ⟨by rfl, fun w hSw => ?_⟩) hHeld ?_
  rotate_left
  · ((try dsimp only at hSw); go_split_ands; go_simp; (try with_reducible rfl))
  try simp only [Act.put, List.getElem_toArray, List.getElem_cons_zero, List.getElem_cons_succ, List.setIfInBounds_toArray, List.set_cons_zero, List.set_cons_succ]
  refine wpAnyH_take (i := 3) (v := ?_) rfl (by kernel_rfl) (by kernel_rfl) (by kernel_rfl) (fun _ _ _ h => h) (Or.inl ⟨by rfl, fun w hSw => ?_⟩) hHeld ?_
  rotate_left
  · ((try dsimp only at hSw); go_split_ands; go_simp; (try with_reducible rfl))
  try simp only [Act.put, List.getElem_toArray, List.getElem_cons_zero, List.getElem_cons_succ, List.setIfInBounds_toArray, List.set_cons_zero, List.set_cons_succ]
  refine wpAnyH_par [2, 4, 5, 6, 7, 8, 9] #[true, true, true, true, true, true, true, true, true, true, false] 7 (by kernel_rfl) hHeld
    (fun a0 D a1 w' => Hid (Below w.heap.size w w' ∧ Blk w' w.heap.size tAs #[.slice A1 a.facts.length c1, .slice A2 a.atoms.length c2] ∧ Blk w' (w.heap.size + 1) tAs #[.slice A3 b.facts.length c3, .slice A4 b.atoms.length c4]) ∧
      ∃ v20 v22 v17 v23 v24 v7, a1 = (((((a0.put (some 20) v20).put (some 22) v22).put (some 17) v17).put (some 23) v23).put (some 24) v24).put (some 7) v7 ∧
        Hid (dn D 2 = true → v20 = .int .u16 T) ∧ Hid (dn D 4 = true → v22 = .tuple #[.agg (case9 cs), .bool true]) ∧ Hid (dn D 5 = true → v17 = .tuple #[.agg (case9 cs), .bool true]) ∧
        Hid (dn D 6 = true → v23 = .agg (case9 cs)) ∧ Hid (dn D 7 = true → v24 = .bool true) ∧
        Hid (dn D 9 = true → dn D 8 = true) ∧ Hid (dn D 8 = true → ∃ x, v7 = .pointer (some ⟨x, 0, none⟩) ∧ w.heap.size + 1 < x ∧ Blk w' x tC (case9 (if dn D 9 = true then cs else zeros)))) ?start ?steps ?fin
  case start => exact ⟨⟨hB.drew, k0.drew, k1.drew⟩, undef, undef, undef, undef, undef, undef, rfl, fun h => absurd h (by decide), fun h => absurd h (by decide), fun h => absurd h (by decide), fun h => absurd h (by decide), fun h => absurd h (by decide), fun h => absurd h (by decide), fun h => absurd h (by decide)⟩
  case steps =>
    refine ParSteps.cons rfl (fun D a1 w' hu hd hI hS K' hK G hG => ?_) (ParSteps.cons rfl (fun D a1 w' hu hd hI hS K' hK G hG => ?_) (ParSteps.cons rfl (fun D a1 w' hu hd hI hS K' hK G hG => ?_) (ParSteps.cons rfl (fun D a1 w' hu hd hI hS K' hK G hG => ?_) (ParSteps.cons rfl (fun D a1 w' hu hd hI hS K' hK G hG => ?_) (ParSteps.cons rfl (fun D a1 w' hu hd hI hS K' hK G hG => ?_) (ParSteps.cons rfl (fun D a1 w' hu hd hI hS K' hK G hG => ?_) (ParSteps.nil)))))))
    · obtain ⟨HW, v20, v22, v17, v23, v24, v7, ha, h2, h4, h5, h6, h7, h9, h8⟩ := hI
      rw [ha] at hG
      clear ha a1
      refine hG ?_
      clear hG hd
      try simp only [Act.put, List.setIfInBounds_toArray, List.set_cons_zero, List.set_cons_succ]
      go_simp
      refine (c_impl_termsIn _ b _ (hV'.out.below HW.out.1)).mono ?_
      rintro e w3 ⟨rfl, hB3⟩
      rw [← HTE.out]
      refine hK.out _ _ ⟨(HW.out.2.1.next hB3).cell, (HW.out.2.2.next hB3).cell⟩ ⟨⟨bgo HW.out.1 hB3, HW.out.2.1.next hB3, HW.out.2.2.next hB3⟩, .int .u16 T, v22, v17, v23, v24, v7, rfl, fun _ => rfl, dn_keep (by decide) h4.out id, dn_keep (by decide) h5.out id, dn_keep (by decide) h6.out id, dn_keep (by decide) h7.out id, fun h => by rw [dn_ne (by decide)] at h ⊢; exact h9.out h, fun h => by rw [dn_ne (by decide)] at h; rw [dn_ne (by decide)]; obtain ⟨x, ex, hx, kx⟩ := h8.out h; exact ⟨x, ex, hx, kx.next hB3⟩⟩
    · obtain ⟨HW, v20, v22, v17, v23, v24, v7, ha, h2, h4, h5, h6, h7, h9, h8⟩ := hI
      rw [ha] at hG
      clear ha a1
      have t : dn D 2 = true := hd ⟨2, .data⟩ (by simp) (by decide)
      have e2 := h2.out t
      subst e2
      clear t
      refine hG ?_
      clear hG hd
      try simp only [Act.put, List.setIfInBounds_toArray, List.set_cons_zero, List.set_cons_succ]
      go_simp
      refine (c_impl_readCase _ a T cs A c _ (hV.out.below HW.out.1) (HX.out.below HW.out.1) HA.out hTb HCS.out).mono ?_
      rintro e w3 ⟨rfl, hB3⟩
      refine hK.out _ _ ⟨(HW.out.2.1.next hB3).cell, (HW.out.2.2.next hB3).cell⟩ ⟨⟨bgo HW.out.1 hB3, HW.out.2.1.next hB3, HW.out.2.2.next hB3⟩, .int .u16 T, .tuple #[.agg (case9 cs), .bool true], v17, v23, v24, v7, rfl, dn_keep (by decide) h2.out id, fun _ => rfl, dn_keep (by decide) h5.out id, dn_keep (by decide) h6.out id, dn_keep (by decide) h7.out id, fun h => by rw [dn_ne (by decide)] at h ⊢; exact h9.out h, fun h => by rw [dn_ne (by decide)] at h; rw [dn_ne (by decide)]; obtain ⟨x, ex, hx, kx⟩ := h8.out h; exact ⟨x, ex, hx, kx.next hB3⟩⟩
    · obtain ⟨HW, v20, v22, v17, v23, v24, v7, ha, h2, h4, h5, h6, h7, h9, h8⟩ := hI
      rw [ha] at hG
      clear ha a1
      have t : dn D 4 = true := hd ⟨4, .data⟩ (by simp) (by decide)
      have e2 := h4.out t
      subst e2
      clear t
      refine hG ?_
      clear hG hd
      try simp only [Act.put, List.setIfInBounds_toArray, List.set_cons_zero, List.set_cons_succ]
      go_simp
      refine hK.out _ _ hS ⟨HW.out, v20, .tuple #[.agg (case9 cs), .bool true], .tuple #[.agg (case9 cs), .bool true], v23, v24, v7, rfl, dn_keep (by decide) h2.out id, dn_keep (by decide) h4.out id, fun _ => rfl, dn_keep (by decide) h6.out id, dn_keep (by decide) h7.out id, fun h => by rw [dn_ne (by decide)] at h ⊢; exact h9.out h, fun h => by rw [dn_ne (by decide)] at h; rw [dn_ne (by decide)]; obtain ⟨x, ex, hx, kx⟩ := h8.out h; exact ⟨x, ex, hx, kx⟩⟩
    · obtain ⟨HW, v20, v22, v17, v23, v24, v7, ha, h2, h4, h5, h6, h7, h9, h8⟩ := hI
      rw [ha] at hG
      clear ha a1
      have t : dn D 5 = true := hd ⟨5, .data⟩ (by simp) (by decide)
      have e2 := h5.out t
      subst e2
      clear t
      refine hG ?_
      clear hG hd
      try simp only [Act.put, List.setIfInBounds_toArray, List.set_cons_zero, List.set_cons_succ]
      go_simp
      refine hK.out _ _ hS ⟨HW.out, v20, v22, .tuple #[.agg (case9 cs), .bool true], .agg (case9 cs), v24, v7, rfl, dn_keep (by decide) h2.out id, dn_keep (by decide) h4.out id, dn_keep (by decide) h5.out id, fun _ => rfl, dn_keep (by decide) h7.out id, fun h => by rw [dn_ne (by decide)] at h ⊢; exact h9.out h, fun h => by rw [dn_ne (by decide)] at h; rw [dn_ne (by decide)]; obtain ⟨x, ex, hx, kx⟩ := h8.out h; exact ⟨x, ex, hx, kx⟩⟩
    · obtain ⟨HW, v20, v22, v17, v23, v24, v7, ha, h2, h4, h5, h6, h7, h9, h8⟩ := hI
      rw [ha] at hG
      clear ha a1
      have t : dn D 5 = true := hd ⟨5, .data⟩ (by simp) (by decide)
      have e2 := h5.out t
      subst e2
      clear t
      refine hG ?_
      clear hG hd
      try simp only [Act.put, List.setIfInBounds_toArray, List.set_cons_zero, List.set_cons_succ]
      go_simp
      refine hK.out _ _ hS ⟨HW.out, v20, v22, .tuple #[.agg (case9 cs), .bool true], v23, .bool true, v7, rfl, dn_keep (by decide) h2.out id, dn_keep (by decide) h4.out id, dn_keep (by decide) h5.out id, dn_keep (by decide) h6.out id, fun _ => rfl, fun h => by rw [dn_ne (by decide)] at h ⊢; exact h9.out h, fun h => by rw [dn_ne (by decide)] at h; rw [dn_ne (by decide)]; obtain ⟨x, ex, hx, kx⟩ := h8.out h; exact ⟨x, ex, hx, kx⟩⟩
    · obtain ⟨HW, v20, v22, v17, v23, v24, v7, ha, h2, h4, h5, h6, h7, h9, h8⟩ := hI
      rw [ha] at hG
      clear ha a1
      have u8 := dn_un hu
      have U9 : Hid (dn D 9 = false) := by show _ = _; cases e : dn D 9; rfl; have := h9.out e; rw [u8] at this; cases this
      clear u8
      refine hG ?_
      clear hG hd
      try simp only [Act.put, List.setIfInBounds_toArray, List.set_cons_zero, List.set_cons_succ]
      go_simp
      have hlt := HW.out.2.2.lt
      have hB2 : Below w.heap.size w (w'.alloc (.cells (case9 zeros) tC)) := HW.out.1.alloc HW.out.1.size _
      refine hK.out _ _ ⟨(HW.out.2.1.alloc _).cell, (HW.out.2.2.alloc _).cell⟩ ⟨⟨hB2, HW.out.2.1.alloc _, HW.out.2.2.alloc _⟩, v20, v22, v17, v23, v24, .pointer (some ⟨w'.heap.size, 0, none⟩), rfl, dn_keep (by decide) h2.out id, dn_keep (by decide) h4.out id, dn_keep (by decide) h5.out id, dn_keep (by decide) h6.out id, dn_keep (by decide) h7.out id, fun _ => dn_self hu, fun _ => ⟨_, rfl, hlt, by rw [dn_ne (by decide), if_neg (by rw [U9.out]; decide)]; exact Blk.new _ _ _⟩⟩
    · obtain ⟨HW, v20, v22, v17, v23, v24, v7, ha, h2, h4, h5, h6, h7, h9, h8⟩ := hI
      rw [ha] at hG
      clear ha a1
      have t : dn D 6 = true := hd ⟨6, .data⟩ (by simp) (by decide)
      have e2 := h6.out t
      subst e2
      clear t
      have t8 : dn D 8 = true := hd ⟨8, .data⟩ (by simp) (by decide)
      have T8 := Lib.hid t8
      obtain ⟨x, rfl, hx, kx0⟩ := h8.out t8
      have u9 := dn_un hu
      have kx : Blk w' x tC (case9 zeros) := by rw [u9, if_neg (by decide)] at kx0; exact kx0
      clear kx0 t8 u9
      have kR' := Blk.nine (v0 := .int .i64 (cl cs 0)) (v1 := .int .i64 (cl cs 1)) (v2 := .int .i64 (cl cs 2)) (v3 := .int .i64 (cl cs 3)) (v4 := .int .i64 (cl cs 4)) (v5 := .int .i64 (cl cs 5)) (v6 := .int .i64 (cl cs 6)) (v7 := .int .i64 (cl cs 7)) (v8 := .int .i64 (cl cs 8)) kx
      have kR : Blk (set9 w' x (.int .i64 (cl cs 0)) (.int .i64 (cl cs 1)) (.int .i64 (cl cs 2)) (.int .i64 (cl cs 3)) (.int .i64 (cl cs 4)) (.int .i64 (cl cs 5)) (.int .i64 (cl cs 6)) (.int .i64 (cl cs 7)) (.int .i64 (cl cs 8))) x tC (case9 cs) := kR'
      obtain ⟨z0, z1, z2, z3, z4, z5, z6, z7, z8⟩ := case9_cells kx
      have rx := kx.frozen
      have lx := kx.lt
      refine hG ?_
      clear hG hd
      try simp only [Act.put, List.setIfInBounds_toArray, List.set_cons_zero, List.set_cons_succ]
      go_simp
      refine hK.out _ _ ⟨(HW.out.2.1.nineFar (by omega)).cell, (HW.out.2.2.nineFar (by omega)).cell⟩ ⟨⟨below9 HW.out.1 (by omega), HW.out.2.1.nineFar (by omega), HW.out.2.2.nineFar (by omega)⟩, v20, v22, v17, .agg (case9 cs), v24, .pointer (some ⟨x, 0, none⟩), rfl, dn_keep (by decide) h2.out id, dn_keep (by decide) h4.out id, dn_keep (by decide) h5.out id, dn_keep (by decide) h6.out id, dn_keep (by decide) h7.out id, fun _ => by rw [dn_ne (by decide)]; exact T8.out, fun _ => ⟨x, rfl, hx, by rw [dn_self hu, if_pos rfl]; exact kR⟩⟩
  case fin =>
    rintro a1 V hHeld ⟨HW, v20, v22, v17, v23, v24, v7, rfl, h2, h4, h5, h6, h7, -, h8⟩
    obtain rfl := h2.out (by decide)
    obtain rfl := h4.out (by decide)
    obtain rfl := h5.out (by decide)
    obtain rfl := h6.out (by decide)
    obtain rfl := h7.out (by decide)
    obtain ⟨x, rfl, hx, kx⟩ := h8.out (by decide)
    have kR' : Blk V x tC (case9 cs) := by rw [if_pos (by decide)] at kx; exact kx
    have hBR := HW.out.1
    have k05 := HW.out.2.1
    have k15 := HW.out.2.2
    clear h2 h4 h5 h6 h7 h8 HW k0 k1 qk0 rk0 lk0 qk1 rk1 lk1 kx
    try simp only [Act.put, List.setIfInBounds_toArray, List.set_cons_zero, List.set_cons_succ]
    refine wpAnyH_take (i := 10) (v := ?_) rfl (by kernel_rfl) (by kernel_rfl) (by kernel_rfl) (fun _ _ _ h => h) (Or.inl ⟨by rfl, fun w hSw => ?_⟩) hHeld ?_
    rotate_left
    · ((try dsimp only at hSw); go_split_ands; go_simp; (try with_reducible rfl))
    try simp only [Act.put, List.getElem_toArray, List.getElem_cons_zero, List.getElem_cons_succ, List.setIfInBounds_toArray, List.set_cons_zero, List.set_cons_succ]
    refine wpAnyH_done (by kernel_rfl) ?_ _
    refine NoPanic.normal ?_
    obtain ⟨p0, p1, p2, p3, p4, p5, p6, p7, p8⟩ := case9_cells kR'
    clear hHeld
    (replace qk05 := k05.cell; replace rk05 := k05.frozen; replace lk05 := k05.lt; replace qk15 := k15.cell; replace rk15 := k15.frozen; replace lk15 := k15.lt)
    go_wp2_with fail
    refine (c_impl_matchCase _ _ a b cs _ (hV.out.below hBR) (hV'.out.below hBR) HA.out HBV.out H9.out).mono ?_
    rintro e w6 ⟨r6, rfl, hB6⟩
    have hB7 := bgo hBR hB6
    go_wp2_with fail
    go_ret
    exact ⟨rfl, hB7⟩
end Go.Proofs.Ytmjgcdolnkdfoaa

/- An assertion entails its tidied form, and the tidied form has no further terms. Plain; no program. -/
namespace Go.Proofs.Ytmjgcdolnkdfoaa
open Go Go.RowKit

/-! the filled atoms stay the same -/
theorem fill_sub {c : List Int} {x t : Int} (e : cl c x = cl c t) (z : Atm) : Atm.fill c (z.sub x t) = Atm.fill c z := by
  unfold Atm.fill Atm.sub
  simp only [swp_val (M := cl c) e]
theorem cls_sub {c : List Int} {x t : Int} (e : cl c x = cl c t) (z : Atm) : Atm.cls c (z.sub x t) = Atm.cls c z := by
  unfold Atm.cls Atm.sub
  simp only [swp_val (M := cl c) e]
theorem filledL_sub {c : List Int} {x t : Int} (e : cl c x = cl c t) (xs : List Atm) : filledL (xs.map (Atm.sub x t)) c = filledL xs c := by
  unfold filledL
  rw [List.filter_map, List.map_map, List.filter_congr (q := Atm.fill c) fun z _ => by simp [fill_sub e]]
  apply List.map_congr_left
  intro z _
  exact cls_sub e z
theorem filledL_nfA (c : List Int) (xs : List Atm) : filledL (xs.filter nfA) c = filledL xs c := by
  unfold filledL
  rw [List.filter_filter]
  congr 1
  apply List.filter_congr
  intro x _
  unfold Atm.fill nfA
  by_cases h : x.kind = 1
  · simp [h]
  · by_cases hk : x.kind = 2
    · by_cases e : x.a = x.b
      · simp [e, hk]
      · simp [e, hk]
    · simp [hk, h]
theorem filledL_subAll {K : Nat} {c : List Int} : ∀ (n : Nat) (a : Asn), (left K a).length ≤ n → Sat (cl c) a → filledL (subAll K a).atoms c = filledL a.atoms c := by
  intro n
  induction n with
  | zero =>
    intro a hn hv
    cases h : subStep K a.facts with
    | none => rw [subAll_none h]
    | some p => obtain ⟨x, t⟩ := p; have := left_lt h; omega
  | succ n ih =>
    intro a hn hv
    cases h : subStep K a.facts with
    | none => rw [subAll_none h]
    | some p =>
      obtain ⟨x, t⟩ := p
      rw [subAll_some h]
      have e : cl c x = cl c t := by
        obtain ⟨f, hf, hs⟩ := List.exists_of_findSome?_eq_some h
        have h1 := hv.facts f hf
        rw [subOf_fact hs, decide_eq_true_eq] at h1
        rcases (subOf_spec hs).2.2 with ⟨e1, e2⟩ | ⟨e1, e2⟩ <;> rw [e1, e2]
        · exact h1
        · exact h1.symm
      rw [ih _ (by have := left_lt h; omega) (hv.subst e)]
      exact filledL_sub e a.atoms
theorem filledL_tidy {K : Nat} {c : List Int} {a : Asn} (h : Sat (cl c) a) : filledL (tidyF K a).atoms c = filledL a.atoms c := by
  rw [← filledL_subAll (K := K) _ a (Nat.le_refl _) h]
  exact filledL_nfA c _

/-! separated atoms describe themselves -/
theorem findU_at {L : List Atm} (h : (L.map fun x => x.a).Nodup) {i : Nat} (hi : i < L.length) {used : List Bool} (hu : used[i]? = some false) : findU L used (L[i]).a = some i := by
  unfold findU
  refine range_find_some hi ?_ fun j hj => ?_
  · unfold freeAt
    rw [hu, List.getElem?_eq_getElem hi]
    simp
  · unfold freeAt
    rw [List.getElem?_eq_getElem (show j < L.length by omega)]
    have hne : (L[j]'(by omega)).a ≠ (L[i]).a := by
      intro e
      have h1 := List.pairwise_iff_getElem.1 h j i (by rw [List.length_map]; omega) (by rw [List.length_map]; exact hi) hj
      rw [List.getElem_map, List.getElem_map] at h1
      exact h1 e
    simp [hne]
theorem useOne_at {L : List Atm} (h : (L.map fun x => x.a).Nodup) {i : Nat} (hi : i < L.length) {used : List Bool} (hu : used[i]? = some false) : useOne L used L[i] = some (used.set i true) := by
  unfold useOne
  split
  · rw [findU_at h hi hu]
    simp [List.getElem?_eq_getElem hi]
  · unfold chainF
    rw [findU_at h hi hu]
    simp [List.getElem?_eq_getElem hi]
def firstU (n i : Nat) : List Bool := List.replicate i true ++ List.replicate (n - i) false
theorem firstU_set {n i : Nat} (hi : i < n) : (firstU n i).set i true = firstU n (i + 1) := by
  unfold firstU
  rw [List.set_append_right _ _ (by simp), List.length_replicate, Nat.sub_self, show n - i = (n - (i + 1)) + 1 from by omega, List.replicate_succ, List.set_cons_zero, List.replicate_succ', List.append_assoc]
  rfl
theorem match_drop {L : List Atm} (h : (L.map fun x => x.a).Nodup) : ∀ (k i : Nat), k + i = L.length → matchF L (firstU L.length i) (L.drop i) = some (firstU L.length L.length) := by
  intro k
  induction k with
  | zero =>
    intro i hi
    obtain rfl : i = L.length := by omega
    rw [List.drop_length]; rfl
  | succ k ih =>
    intro i hi
    rw [List.drop_eq_getElem_cons (show i < L.length by omega)]
    unfold matchF
    rw [useOne_at h (by omega) (by unfold firstU; rw [List.getElem?_append_right (by simp), List.length_replicate, Nat.sub_self, List.getElem?_replicate, if_pos (by omega)])]
    rw [Option.bind_some, firstU_set (by omega)]
    exact ih _ (by omega)
theorem matchB_self {L : List Atm} (h : (L.map fun x => x.a).Nodup) : matchB L L = true := by
  unfold matchB
  have := match_drop h L.length 0 (by omega)
  rw [List.drop_zero] at this
  rw [show List.replicate L.length false = firstU L.length 0 from by simp [firstU], this]
  simp [firstU]
theorem Sat.nodup {c : List Int} {a : Asn} (h : Sat (cl c) a) : ((filledL a.atoms c).map fun x => x.a).Nodup := by
  have := h.apart
  unfold filledL
  rw [List.map_map]
  exact this
theorem tidy_ent {K : Nat} {a : Asn} {c : List Int} (h : Sat (cl c) a) : entB a (tidyF K a) c = true := by
  unfold entB
  rw [Bool.and_eq_true]
  constructor
  · rw [List.all_eq_true]
    intro f hf
    unfold Fct.fits
    rw [beq_iff_eq]
    exact (tidy_sat (K := K) h).facts f hf
  · rw [filledL_tidy h]
    exact matchB_self h.nodup
theorem tidy_entF {K : Nat} {a : Asn} (hv : a.valid = true) : entF a (tidyF K a) = true := by
  unfold entF
  rw [hv, tidy_valid hv]
  have : failF a (tidyF K a) = none := by
    unfold failF
    rw [List.find?_eq_none]
    intro c hc
    rw [tidy_ent (case_sat hv (caseS_zero _ _) hc)]
    simp
  rw [this]; rfl

/-! no further terms -/
theorem termsL_sub2 {K : Nat} {a : Asn} {x t : Int} (h : subStep K a.facts = some (x, t)) {n : Int} (hn : n ∈ termsL (substA x t a)) : n ∈ termsL a := by
  obtain ⟨f, hf, hs⟩ := List.exists_of_findSome?_eq_some h
  have hm := termsL_facts hf
  rcases termsL_subst hn with ⟨h1, _⟩ | ⟨h1, _⟩
  · exact h1
  · rcases (subOf_spec hs).2.2 with ⟨_, e⟩ | ⟨_, e⟩ <;> rw [h1, e]
    · exact hm.2
    · exact hm.1
theorem termsL_subAll {K : Nat} : ∀ (n : Nat) (a : Asn), (left K a).length ≤ n → ∀ s ∈ termsL (subAll K a), s ∈ termsL a := by
  intro n
  induction n with
  | zero =>
    intro a hn s hs
    cases h : subStep K a.facts with
    | none => rwa [subAll_none h] at hs
    | some p => obtain ⟨x, t⟩ := p; have := left_lt h; omega
  | succ n ih =>
    intro a hn s hs
    cases h : subStep K a.facts with
    | none => rwa [subAll_none h] at hs
    | some p =>
      obtain ⟨x, t⟩ := p
      rw [subAll_some h] at hs
      exact termsL_sub2 h (ih _ (by have := left_lt h; omega) s hs)
theorem termsL_less {a b : Asn} (hf : ∀ f ∈ b.facts, ∃ g ∈ a.facts, ∀ s ∈ factT f, s ∈ factT g) (hx : ∀ x ∈ b.atoms, x ∈ a.atoms) : ∀ s ∈ termsL b, s ∈ termsL a := by
  intro s hs
  simp only [termsL, List.mem_append, List.mem_flatMap] at hs ⊢
  rcases hs with ⟨f, h1, h2⟩ | ⟨x, h1, h2⟩
  · obtain ⟨g, h3, h4⟩ := hf f h1
    exact Or.inl ⟨g, h3, h4 s h2⟩
  · exact Or.inr ⟨x, hx x h1, h2⟩
theorem termsL_normal (a : Asn) : ∀ s ∈ termsL (normalF a), s ∈ termsL a := by
  refine termsL_less (fun g hg => ?_) (fun x hx => (List.mem_filter.1 hx).1)
  rcases nfold_mem _ _ _ hg with h1 | ⟨f, hf, rfl⟩
  · cases h1
  · refine ⟨f, hf, fun s hs => ?_⟩
    unfold nfF at hs
    split at hs
    · simp only [factT, List.mem_cons, List.not_mem_nil, or_false] at hs ⊢
      exact hs.symm
    · exact hs
theorem termsL_tidy {K : Nat} {a : Asn} : ∀ s ∈ termsL (tidyF K a), s ∈ termsL a := by
  intro s hs
  refine termsL_subAll (K := K) _ a (Nat.le_refl _) s ?_
  refine termsL_less ?_ ?_ s (termsL_normal _ s hs)
  · intro f hf
    exact ⟨f, (List.mem_filter.1 hf).1, fun _ h => h⟩
  · exact fun _ h => h
/-- the terms of a valid assertion in ascending order; none of another one -/
def atermsL (a : Asn) : List Int := if a.valid then ((List.range 9).filter fun n => (tset (termsL a)).testBit n).map fun n : Nat => (n : Int) else []
theorem atermsL_mem {a : Asn} (hv : a.valid = true) {s : Int} : s ∈ atermsL a ↔ ∃ n : Nat, n < 9 ∧ (tset (termsL a)).testBit n = true ∧ (n : Int) = s := by
  unfold atermsL
  rw [if_pos hv]
  simp [and_assoc]
theorem aterms_tidy {K : Nat} {a : Asn} (hv : a.valid = true) : ∀ s ∈ atermsL (tidyF K a), s ∈ [0] ++ atermsL a := by
  intro s hs
  rw [atermsL_mem (tidy_valid hv)] at hs
  obtain ⟨n, h1, h2, rfl⟩ := hs
  refine List.mem_append_right _ ((atermsL_mem hv).2 ⟨n, h1, ?_, rfl⟩)
  rw [tset_bit, decide_eq_true_eq] at h2 ⊢
  exact ⟨h2.1, termsL_tidy _ h2.2⟩
end Go.Proofs.Ytmjgcdolnkdfoaa

/- Cases given as lists; the law of EntailsCase. Plain; no program. -/
namespace Go.Proofs.Ytmjgcdolnkdfoaa
open Go Go.RowKit

theorem least_self {S : Nat} {cs : List Int} (hL : ∀ j : Nat, j < 9 → (S.testBit j = true → (0 ≤ cl cs j ∧ cl cs j ≤ j) ∧ cl cs (cl cs j) = cl cs j) ∧ (S.testBit j = false → cl cs j = -1)) {j : Nat} (hj : j < 9) (hb : S.testBit j = true) : ((leastM (cl cs) S j : Nat) : Int) = cl cs j := by
  have h := (hL j hj).1 hb
  obtain ⟨k, hk⟩ := Int.eq_ofNat_of_zero_le h.1.1
  have hkj : k ≤ j := by omega
  have hkb : S.testBit k = true := by
    cases e : S.testBit k
    · have h2 := (hL k (by omega)).2 e
      have h3 := h.2
      rw [hk, h2] at h3
      omega
    · rfl
  rw [least_is (k := k) hkb hb (by rw [← hk]; exact h.2) (fun i hi hib => by
    have h2 := ((hL i (by omega)).1 hib).1.2
    omega), hk]
theorem case_iff {a : Asn} {S : Nat} {cs : List Int} : cs ∈ cases a S ↔ cs.length = 9 ∧ (∀ j : Nat, j < 9 → (S.testBit j = true → (0 ≤ cl cs j ∧ cl cs j ≤ j) ∧ cl cs (cl cs j) = cl cs j) ∧ (S.testBit j = false → cl cs j = -1)) ∧ full a cs = true := by
  constructor
  · intro h
    have hgen : cs ∈ gen S 9 zeros := (List.mem_filter.1 h).1
    have hg := gen_ok _ 9 zeros cs (by omega) rfl hgen
    refine ⟨hg.1, fun j hj => ⟨fun hb => ⟨(hg.2.2 j (by omega) hj).1 hb, gen_idem _ 9 zeros cs (by omega) rfl hgen j (by omega) hj hb⟩, fun hb => (hg.2.2 j (by omega) hj).2 hb⟩, (List.mem_filter.1 h).2⟩
  · rintro ⟨h1, h2, h3⟩
    refine List.mem_filter.2 ⟨?_, h3⟩
    have e : cs = canon (cl cs) S := canon_ext h1 fun j hj => by
      unfold caseAt
      cases hb : S.testBit j
      · exact (h2 j hj).2 hb
      · rw [if_pos rfl, least_self h2 hj hb]
    have := canon_gen (cl cs) S 9 zeros (by omega) rfl (fun j hj => absurd hj (by omega))
    rwa [← e] at this
/-- EntailsCase, for any list -/
def entC (a b : Asn) (cs : List Int) : Bool := a.valid && (b.valid && (decide (cs ∈ cases a (caseS a (tset (termsL b)))) && entB a b cs))
theorem entC_iff {a b : Asn} {cs : List Int} : entC a b cs = true ↔ a.valid = true ∧ b.valid = true ∧ cs ∈ cases a (caseS a (tset (termsL b))) ∧ entB a b cs = true := by
  simp only [entC, Bool.and_eq_true, decide_eq_true_eq]
/-- the classes of a's own terms -/
def ownC (a : Asn) (cs : List Int) : List Int := canon (cl cs) (caseS a 0)
theorem entC_law {a b : Asn} {cs : List Int} (h : entC a b cs = true) : ownC a cs ∈ cases a (caseS a 0) ∧ (failB a b = true → cs ≠ failL a b) := by
  obtain ⟨ha, hb, hc, he⟩ := entC_iff.1 h
  refine ⟨sat_case ha (caseS_zero a 0) (caseS_terms ha 0) (case_sat ha (caseS_zero a _) hc), fun hf e => ?_⟩
  unfold failB at hf
  rw [ha, hb] at hf
  unfold failL at e
  rw [ha, hb] at e
  cases hx : failF a b with
  | none => rw [hx] at hf; cases hf
  | some d =>
    rw [hx] at e
    obtain rfl : cs = d := e
    unfold failF at hx
    have := List.find?_some hx
    rw [he] at this
    cases this
theorem aterms_bit {a : Asn} (hv : a.valid = true) {j : Nat} (h1 : 1 ≤ j) (h9 : j < 9) : decide ((j : Int) ∈ atermsL a) = (caseS a 0).testBit j := by
  have e : (caseS a 0).testBit j = (tset (termsL a)).testBit j := by
    rw [caseS_bit, tset_bit]
    have : ¬ j = 0 := by omega
    simp [this]
  rw [e, Bool.eq_iff_iff, decide_eq_true_eq, atermsL_mem hv]
  constructor
  · rintro ⟨n, -, h, e⟩
    obtain rfl : n = j := by omega
    exact h
  · intro h
    exact ⟨j, h9, h, rfl⟩
/-- what readCase reads: up to the first bad class -/
def goodAt (S : Nat) (cs : List Int) (j : Nat) : Bool := if S.testBit j then decide (0 ≤ cl cs j) && (decide (cl cs j ≤ j) && decide (cl cs (cl cs j) = cl cs j)) else decide (cl cs j = -1)
def readTo (cs : List Int) (k : Nat) : List Int := cs.take k ++ List.replicate (9 - k) 0
def readL (S : Nat) (cs : List Int) : List Int := if cs.length = 9 then (match (List.range 9).find? (fun j => !goodAt S cs j) with | some j => readTo cs (j + 1) | none => cs) else zeros
theorem readTo_length {cs : List Int} {k : Nat} (h : cs.length = 9) (hk : k ≤ 9) : (readTo cs k).length = 9 := by
  unfold readTo; rw [List.length_append, List.length_take, List.length_replicate, h]; omega
theorem readTo_cl {cs : List Int} {k j : Nat} (h : cs.length = 9) (hk : k ≤ 9) (hj : j < k) : cl (readTo cs k) j = cl cs j := by
  unfold readTo cl
  rw [Int.toNat_natCast, List.getElem?_append_left (by rw [List.length_take, h]; omega), List.getElem?_take, if_pos hj]
theorem readTo_set {cs : List Int} {k : Nat} (h : cs.length = 9) (hk : k < 9) {x : Int} (hx : cl cs k = x) : (readTo cs k).set k x = readTo cs (k + 1) := by
  apply List.ext_getElem (by rw [List.length_set, readTo_length h (by omega), readTo_length h (by omega)])
  intro j h1 h2
  rw [readTo_length h (by omega)] at h2
  have e : cl ((readTo cs k).set k x) j = cl (readTo cs (k + 1)) j := by
    rw [cl_set (readTo_length h (by omega)) hk _ (by omega)]
    split
    · rename_i e
      obtain rfl : j = k := by omega
      rw [readTo_cl h (by omega) (by omega), hx]
    · rename_i e
      rcases Nat.lt_or_ge j k with hj | hj
      · rw [readTo_cl h (by omega) hj, readTo_cl h (by omega) (by omega)]
      · unfold readTo cl
        rw [Int.toNat_natCast, List.getElem?_append_right (by rw [List.length_take, h]; omega), List.getElem?_append_right (by rw [List.length_take, h]; omega), List.getElem?_replicate, List.getElem?_replicate, List.length_take, List.length_take, h]
        rw [if_pos (by omega), if_pos (by omega)]
  simpa [cl, List.getElem?_eq_getElem h1, List.getElem?_eq_getElem (show j < (readTo cs (k + 1)).length by rw [readTo_length h (by omega)]; exact h2)] using e
theorem readTo_full {cs : List Int} (h : cs.length = 9) : readTo cs 9 = cs := by
  unfold readTo; rw [List.take_of_length_le (by omega)]; simp
theorem readL_bad {a : Asn} {S : Nat} {cs : List Int} (h : cs.length = 9) {k : Nat} (hk : k < 9) (hg : ∀ j, j < k → goodAt S cs j = true) (hb : goodAt S cs k = false) : readL S cs = readTo cs (k + 1) ∧ decide (cs ∈ cases a S) = false := by
  constructor
  · unfold readL
    rw [if_pos h, range_find_some hk (by rw [hb]; rfl) (fun j hj => by rw [hg j hj]; rfl)]
  · rw [decide_eq_false_iff_not]
    intro hc
    have := (case_iff.1 hc).2.1 k hk
    unfold goodAt at hb
    cases e : S.testBit k
    · rw [e] at hb; simp only [Bool.false_eq_true, if_false, decide_eq_false_iff_not] at hb
      exact hb (this.2 e)
    · rw [e, if_pos rfl] at hb
      have h1 := this.1 e
      rw [decide_eq_true h1.1.1, decide_eq_true h1.1.2, decide_eq_true h1.2] at hb
      cases hb
theorem good_iff {S : Nat} {cs : List Int} {j : Nat} (h : goodAt S cs j = true) : (S.testBit j = true → (0 ≤ cl cs j ∧ cl cs j ≤ j) ∧ cl cs (cl cs j) = cl cs j) ∧ (S.testBit j = false → cl cs j = -1) := by
  unfold goodAt at h
  cases e : S.testBit j
  · rw [e] at h; simp only [Bool.false_eq_true, if_false, decide_eq_true_eq] at h
    exact ⟨(fun h => by cases h), fun _ => h⟩
  · rw [e, if_pos rfl] at h
    simp only [Bool.and_eq_true, decide_eq_true_eq] at h
    exact ⟨fun _ => ⟨⟨h.1, h.2.1⟩, h.2.2⟩, (fun h => by cases h)⟩
theorem readL_ok {a : Asn} {S : Nat} {cs : List Int} (h : cs.length = 9) (hg : ∀ j, j < 9 → goodAt S cs j = true) : readL S cs = cs ∧ decide (cs ∈ cases a S) = full a cs := by
  constructor
  · unfold readL
    rw [if_pos h, range_find_none (fun j hj => by rw [hg j hj]; rfl)]
  · rw [Bool.eq_iff_iff, decide_eq_true_eq]
    exact ⟨fun hc => (case_iff.1 hc).2.2, fun hf => case_iff.2 ⟨h, fun j hj => good_iff (hg j hj), hf⟩⟩
theorem readL_length {S : Nat} {cs : List Int} : (readL S cs).length = 9 := by
  unfold readL
  split
  · rename_i h
    split
    · rename_i j hj
      have : j < 9 := List.mem_range.1 (List.mem_of_find?_eq_some hj)
      exact readTo_length h (by omega)
    · exact h
  · rfl
theorem readL_case {a : Asn} {S : Nat} {cs : List Int} (h : cs ∈ cases a S) : readL S cs = cs := by
  have hc := case_iff.1 h
  refine (readL_ok (a := a) hc.1 fun j hj => ?_).1
  have := hc.2.1 j hj
  unfold goodAt
  cases e : S.testBit j
  · rw [if_neg (by decide)]; exact decide_eq_true (this.2 e)
  · rw [if_pos rfl, decide_eq_true (this.1 e).1.1, decide_eq_true (this.1 e).1.2, decide_eq_true (this.1 e).2]; rfl
end Go.Proofs.Ytmjgcdolnkdfoaa

/- Contracts: impl's readCase and EntailsCase for any list. -/
namespace Go.Proofs.Ytmjgcdolnkdfoaa
open Go Go.RowKit Go.Proofs
attribute [local go_sem ↓] Go.wp_at_zero Go.wp_at_succ

--@ impl.readCase
set_option maxRecDepth 100000 in
set_option maxHeartbeats 6400000 in
theorem c_impl_readAny {lo hi lo' hi' : Nat} (v : Value) (a : Asn) (F : Nat) (cs : List Int) (A : Option Addr) (c : Nat) (w : World) (h : AsnV w lo hi v a) (hA : IntsV w lo' hi' A cs) (hv : a.valid = true) (hF : F < 512) :
    Calls Try.prog 90 #[v, .int .u16 F, .slice A cs.length c] w fun e w' => e = .returned (.tuple #[.agg (case9 (readL (caseS a F) cs)), .bool (decide (cs ∈ cases a (caseS a F)))]) ∧ Below w.heap.size w w' := by
  have hV := Lib.hid h
  have HX := Lib.hid hA
  obtain ⟨A1, c1, A2, c2, rfl, -, -⟩ := h
  have hok := Asn.valid_ok hv
  have HOK := Lib.hid hok
  have HT := Lib.hid (caseS_terms hv F)
  have hT := tset_lt (termsL a)
  have hT2 := tins_lt hT 0
  have hU := u16_or_nat (tins (tset (termsL a)) 0) F (by omega) (by omega)
  have hSlt : caseS a F < 512 := caseS_lt hF
  have HCS : Hid (tins (tset (termsL a)) 0 ||| F = caseS a F) := rfl
  have HX9 := Lib.hid hA.le
  clear hok hA
  by_cases h9 : cs.length = 9
  rotate_left
  · have hn9 : ((cs.length : Int) != 9) = true := by simp; omega
    have E : Hid (readL (caseS a F) cs = zeros ∧ decide (cs ∈ cases a (caseS a F)) = false) := ⟨by unfold readL; rw [if_neg h9], by rw [decide_eq_false_iff_not]; exact fun h => h9 (case_iff.1 h).1⟩
    clear h9
    go_enter Try.func90, Try.ntmps90
    go_wp2_with fail
    rw [E.out.1, E.out.2]
    exact bodyPost_ret (v := .tuple #[.agg (case9 zeros), .bool false]) (by simp [results, Try.results90, go_sem]; decide) rfl ⟨rfl, bel⟩
  have H9 := Lib.hid h9
  have hn9 : ((cs.length : Int) != 9) = false := by simp; omega
  obtain ⟨R, hR⟩ : ∃ R, R = readL (caseS a F) cs := ⟨_, rfl⟩
  obtain ⟨q, hq⟩ : ∃ q, q = decide (cs ∈ cases a (caseS a F)) := ⟨_, rfl⟩
  have HRE := Lib.hid hR
  have HQE := Lib.hid hq
  rw [← hR, ← hq]
  clear h9 hR hq
  go_enter Try.func90, Try.ntmps90
  have k0 : Blk (((w.alloc (.cells #[.slice A1 a.facts.length c1, .slice A2 a.atoms.length c2] tAs)).alloc (.cells (case9 zeros) tC)).alloc (.cells (case9 zeros) tC)) w.heap.size tAs #[.slice A1 a.facts.length c1, .slice A2 a.atoms.length c2] := blks
  have k1 : Blk (((w.alloc (.cells #[.slice A1 a.facts.length c1, .slice A2 a.atoms.length c2] tAs)).alloc (.cells (case9 zeros) tC)).alloc (.cells (case9 zeros) tC)) (w.heap.size + 1) tC (case9 zeros) := blks
  have k2 : Blk (((w.alloc (.cells #[.slice A1 a.facts.length c1, .slice A2 a.atoms.length c2] tAs)).alloc (.cells (case9 zeros) tC)).alloc (.cells (case9 zeros) tC)) (w.heap.size + 1 + 1) tC (case9 zeros) := blks
  go_wp2_with fail
  refine (c_impl_termsIn _ a _ (hV.out.below bel)).mono ?_
  rintro e w1 ⟨rfl, hB1⟩
  have hB := bgo (w := w) bel hB1
  replace k0 := Blk.next k0 hB1
  replace k1 := Blk.next k1 hB1
  replace k2 := Blk.next k2 hB1
  clear hB1
  go_wp2_with fail
  refine (c_impl_with _ 0 _ hT).mono ?_
  rintro e w2 ⟨rfl, rfl⟩
  obtain ⟨S, hSe⟩ : ∃ S, S = caseS a F := ⟨_, rfl⟩
  have HB := Lib.hid hB
  rw [HCS.out, ← hSe] at hU
  rw [← hSe] at HT hSlt HRE HQE
  clear hB HCS hSe
  (replace qk0 := k0.cell; replace rk0 := k0.frozen; replace lk0 := k0.lt)
  go_wp2_with fail
  try rw [hU]
  clear hU hT hT2
  go_loopw [23] (fun i wr => ∃ k : Nat, k ≤ 9 ∧ i = .int .i64 k ∧ Hid (∀ j : Nat, j < k → goodAt S cs j = true) ∧ Blk wr w.heap.size tAs #[.slice A1 a.facts.length c1, .slice A2 a.atoms.length c2] ∧ Blk wr (w.heap.size + 1) tC (case9 zeros) ∧ Blk wr (w.heap.size + 1 + 1) tC (case9 (readTo cs k)) ∧ Hid (Below w.heap.size w wr)) (fun i _ => 9 - (intOf i).toNat)
  case atStart => exact ⟨0, by omega, rfl, fun j hj => by omega, k0, k1, k2, HB.out⟩
  case round =>
    clear k0 k1 k2 HB qk0 rk0 lk0
    obtain ⟨k, hk, rfl, HG, k0, k1, k2, HB⟩ := hrel
    have hll : Hid ((cs.length : Int) = 9) := by show _ = _; have := H9.out; omega
    by_cases hk9 : k < 9
    · have hki : (k : Int) < (cs.length : Int) := by have := hll.out; omega
      have hki9 : (k : Int) < 9 := by omega
      have hkl : k < cs.length := by have := H9.out; omega
      obtain ⟨b, off, e, cx⟩ := (HX.out.below HB.out).at hkl
      subst e
      have hclk : cl cs k = cs[k] := by unfold cl; rw [Int.toNat_natCast, List.getElem?_eq_getElem hkl]; rfl
      obtain ⟨x, hx⟩ : ∃ x, x = cs[k] := ⟨_, rfl⟩
      rw [← hx] at cx hclk
      have HCK := Lib.hid hclk
      have qm : wr.cell? ⟨w.heap.size + 1 + 1, k, none⟩ = some (.int .i64 (cl (readTo cs k) k)) := case_cell (k2.case (readTo_length H9.out hk)) (by rw [readTo_length H9.out hk]; omega)
      have r2 := k2.frozen
      have l2 := k2.lt
      have k2' := k2.caseSet (readTo_length H9.out hk) k x
      rw [readTo_set H9.out hk9 hclk] at k2'
      have k0' := k0.far (p := ⟨w.heap.size + 1 + 1, k, none⟩) (by simp only; omega) (.int .i64 x)
      have k1' := k1.far (p := ⟨w.heap.size + 1 + 1, k, none⟩) (by simp only; omega) (.int .i64 x)
      have HB' : Hid (Below w.heap.size w (wr.setCell ⟨w.heap.size + 1 + 1, k, none⟩ (.int .i64 x))) := HB.out.setCell (p := ⟨w.heap.size + 1 + 1, k, none⟩) (by simp only; omega) _
      have HBAD : Hid (goodAt S cs k = false → R = readTo cs (k + 1) ∧ q = false) := fun hb => by
        have h := readL_bad (a := a) H9.out hk9 HG.out hb
        exact ⟨by rw [HRE.out]; exact h.1, by rw [HQE.out]; exact h.2⟩
      have HGOOD : Hid (goodAt S cs k = true → ∀ j : Nat, j < k + 1 → goodAt S cs j = true) := fun hb j hj => by
        rcases Nat.lt_or_ge j k with h | h
        · exact HG.out j h
        · rw [show j = k from by omega]; exact hb
      clear hx hclk hkl
      go_wp2_with fail
      refine (c_impl_tHas S (k : Int) _ hSlt).mono ?_
      rintro e w3 ⟨rfl, rfl⟩
      rw [show isTermB (k : Int) = true from isTermB_iff.2 (by omega), Int.toNat_natCast, Bool.true_and]
      generalize (wr.setCell ⟨w.heap.size + 1 + 1, k, none⟩ (.int .i64 x)) = W3 at k2' k0' k1' HB' ⊢
      clear k0 k1 k2 HB qm r2 l2 cx
      cases hb : S.testBit k
      · by_cases hx1 : x = -1
        · have hx2 : (x != -1) = false := by simp [hx1]
          have HN := Lib.hid (HGOOD.out (by unfold goodAt; rw [hb, if_neg (by decide), HCK.out]; exact decide_eq_true hx1))
          clear hb hx1
          go_wp2_with fail
          go_round
          case rel => exact ⟨k + 1, by omega, by go_num, HN.out, k0', k1', k2', HB'⟩
          case measure => simp [intOf]; omega
        · have hx2 : (x != -1) = true := by simpa using hx1
          have HN := Lib.hid (HBAD.out (by unfold goodAt; rw [hb, if_neg (by decide), HCK.out]; exact decide_eq_false hx1))
          clear hb hx1
          rw [← HN.out.1] at k2'
          have HQF := Lib.hid HN.out.2
          obtain ⟨q0, q1, q2, q3, q4, q5, q6, q7, q8⟩ := case9_cells k2'
          obtain ⟨z0, z1, z2, z3, z4, z5, z6, z7, z8⟩ := case9_cells k1'
          have r14 := k1'.frozen
          have l14 := k1'.lt
          clear HN HBAD HGOOD HG
          go_wp2_with fail
          have kR := Blk.nine (v0 := .int .i64 (cl R 0)) (v1 := .int .i64 (cl R 1)) (v2 := .int .i64 (cl R 2)) (v3 := .int .i64 (cl R 3)) (v4 := .int .i64 (cl R 4)) (v5 := .int .i64 (cl R 5)) (v6 := .int .i64 (cl R 6)) (v7 := .int .i64 (cl R 7)) (v8 := .int .i64 (cl R 8)) k1'
          have hBR := below9 (g := w.heap.size + 1) (v0 := .int .i64 (cl R 0)) (v1 := .int .i64 (cl R 1)) (v2 := .int .i64 (cl R 2)) (v3 := .int .i64 (cl R 3)) (v4 := .int .i64 (cl R 4)) (v5 := .int .i64 (cl R 5)) (v6 := .int .i64 (cl R 6)) (v7 := .int .i64 (cl R 7)) (v8 := .int .i64 (cl R 8)) HB'.out (by omega)
          obtain ⟨V, hVe⟩ : ∃ V, V = (set9 W3 (w.heap.size + 1) (.int .i64 (cl R 0)) (.int .i64 (cl R 1)) (.int .i64 (cl R 2)) (.int .i64 (cl R 3)) (.int .i64 (cl R 4)) (.int .i64 (cl R 5)) (.int .i64 (cl R 6)) (.int .i64 (cl R 7)) (.int .i64 (cl R 8))) := ⟨_, rfl⟩
          show bodyPost _ _ _ _ _ (set9 W3 (w.heap.size + 1) (.int .i64 (cl R 0)) (.int .i64 (cl R 1)) (.int .i64 (cl R 2)) (.int .i64 (cl R 3)) (.int .i64 (cl R 4)) (.int .i64 (cl R 5)) (.int .i64 (cl R 6)) (.int .i64 (cl R 7)) (.int .i64 (cl R 8)))
          rw [← hVe] at kR hBR ⊢
          have kR' : Blk V (w.heap.size + 1) tC (case9 R) := kR
          obtain ⟨p0, p1, p2, p3, p4, p5, p6, p7, p8⟩ := case9_cells kR'
          clear hVe kR
          exact bodyPost_ret (v := .tuple #[.agg (case9 R), .bool false]) (by simp [results, Try.results90, go_sem, p0, p1, p2, p3, p4, p5, p6, p7, p8]) rfl ⟨by rw [HQF.out], hBR⟩
      · by_cases hx0 : x < 0
        · have HN := Lib.hid (HBAD.out (by unfold goodAt; rw [hb, if_pos rfl, HCK.out, decide_eq_false (by omega : ¬ 0 ≤ x)]; rfl))
          clear hb
          rw [← HN.out.1] at k2'
          have HQF := Lib.hid HN.out.2
          obtain ⟨q0, q1, q2, q3, q4, q5, q6, q7, q8⟩ := case9_cells k2'
          obtain ⟨z0, z1, z2, z3, z4, z5, z6, z7, z8⟩ := case9_cells k1'
          have r14 := k1'.frozen
          have l14 := k1'.lt
          clear HN HBAD HGOOD HG
          go_wp2_with fail
          have kR := Blk.nine (v0 := .int .i64 (cl R 0)) (v1 := .int .i64 (cl R 1)) (v2 := .int .i64 (cl R 2)) (v3 := .int .i64 (cl R 3)) (v4 := .int .i64 (cl R 4)) (v5 := .int .i64 (cl R 5)) (v6 := .int .i64 (cl R 6)) (v7 := .int .i64 (cl R 7)) (v8 := .int .i64 (cl R 8)) k1'
          have hBR := below9 (g := w.heap.size + 1) (v0 := .int .i64 (cl R 0)) (v1 := .int .i64 (cl R 1)) (v2 := .int .i64 (cl R 2)) (v3 := .int .i64 (cl R 3)) (v4 := .int .i64 (cl R 4)) (v5 := .int .i64 (cl R 5)) (v6 := .int .i64 (cl R 6)) (v7 := .int .i64 (cl R 7)) (v8 := .int .i64 (cl R 8)) HB'.out (by omega)
          obtain ⟨V, hVe⟩ : ∃ V, V = (set9 W3 (w.heap.size + 1) (.int .i64 (cl R 0)) (.int .i64 (cl R 1)) (.int .i64 (cl R 2)) (.int .i64 (cl R 3)) (.int .i64 (cl R 4)) (.int .i64 (cl R 5)) (.int .i64 (cl R 6)) (.int .i64 (cl R 7)) (.int .i64 (cl R 8))) := ⟨_, rfl⟩
          show bodyPost _ _ _ _ _ (set9 W3 (w.heap.size + 1) (.int .i64 (cl R 0)) (.int .i64 (cl R 1)) (.int .i64 (cl R 2)) (.int .i64 (cl R 3)) (.int .i64 (cl R 4)) (.int .i64 (cl R 5)) (.int .i64 (cl R 6)) (.int .i64 (cl R 7)) (.int .i64 (cl R 8)))
          rw [← hVe] at kR hBR ⊢
          have kR' : Blk V (w.heap.size + 1) tC (case9 R) := kR
          obtain ⟨p0, p1, p2, p3, p4, p5, p6, p7, p8⟩ := case9_cells kR'
          clear hVe kR
          exact bodyPost_ret (v := .tuple #[.agg (case9 R), .bool false]) (by simp [results, Try.results90, go_sem, p0, p1, p2, p3, p4, p5, p6, p7, p8]) rfl ⟨by rw [HQF.out], hBR⟩
        by_cases hxk : (k : Int) < x
        · have HN := Lib.hid (HBAD.out (by unfold goodAt; rw [hb, if_pos rfl, HCK.out, decide_eq_true (by omega : 0 ≤ x), decide_eq_false (by omega : ¬ x ≤ (k : Int))]; rfl))
          clear hb
          rw [← HN.out.1] at k2'
          have HQF := Lib.hid HN.out.2
          obtain ⟨q0, q1, q2, q3, q4, q5, q6, q7, q8⟩ := case9_cells k2'
          obtain ⟨z0, z1, z2, z3, z4, z5, z6, z7, z8⟩ := case9_cells k1'
          have r14 := k1'.frozen
          have l14 := k1'.lt
          clear HN HBAD HGOOD HG
          go_wp2_with fail
          have kR := Blk.nine (v0 := .int .i64 (cl R 0)) (v1 := .int .i64 (cl R 1)) (v2 := .int .i64 (cl R 2)) (v3 := .int .i64 (cl R 3)) (v4 := .int .i64 (cl R 4)) (v5 := .int .i64 (cl R 5)) (v6 := .int .i64 (cl R 6)) (v7 := .int .i64 (cl R 7)) (v8 := .int .i64 (cl R 8)) k1'
          have hBR := below9 (g := w.heap.size + 1) (v0 := .int .i64 (cl R 0)) (v1 := .int .i64 (cl R 1)) (v2 := .int .i64 (cl R 2)) (v3 := .int .i64 (cl R 3)) (v4 := .int .i64 (cl R 4)) (v5 := .int .i64 (cl R 5)) (v6 := .int .i64 (cl R 6)) (v7 := .int .i64 (cl R 7)) (v8 := .int .i64 (cl R 8)) HB'.out (by omega)
          obtain ⟨V, hVe⟩ : ∃ V, V = (set9 W3 (w.heap.size + 1) (.int .i64 (cl R 0)) (.int .i64 (cl R 1)) (.int .i64 (cl R 2)) (.int .i64 (cl R 3)) (.int .i64 (cl R 4)) (.int .i64 (cl R 5)) (.int .i64 (cl R 6)) (.int .i64 (cl R 7)) (.int .i64 (cl R 8))) := ⟨_, rfl⟩
          show bodyPost _ _ _ _ _ (set9 W3 (w.heap.size + 1) (.int .i64 (cl R 0)) (.int .i64 (cl R 1)) (.int .i64 (cl R 2)) (.int .i64 (cl R 3)) (.int .i64 (cl R 4)) (.int .i64 (cl R 5)) (.int .i64 (cl R 6)) (.int .i64 (cl R 7)) (.int .i64 (cl R 8)))
          rw [← hVe] at kR hBR ⊢
          have kR' : Blk V (w.heap.size + 1) tC (case9 R) := kR
          obtain ⟨p0, p1, p2, p3, p4, p5, p6, p7, p8⟩ := case9_cells kR'
          clear hVe kR
          exact bodyPost_ret (v := .tuple #[.agg (case9 R), .bool false]) (by simp [results, Try.results90, go_sem, p0, p1, p2, p3, p4, p5, p6, p7, p8]) rfl ⟨by rw [HQF.out], hBR⟩
        obtain ⟨xn, rfl⟩ := Int.eq_ofNat_of_zero_le (by omega : 0 ≤ x)
        have hx9 : (xn : Int) < 9 := by omega
        have qx : W3.cell? ⟨w.heap.size + 1 + 1, xn, none⟩ = some (.int .i64 (cl (readTo cs (k + 1)) xn)) := case_cell (k2'.case (readTo_length H9.out (by omega))) (by rw [readTo_length H9.out (by omega)]; omega)
        rw [readTo_cl H9.out (by omega) (by omega)] at qx
        by_cases hid : cl cs xn = xn
        · have hxx : ((xn : Int) != (xn : Int)) = false := by simp
          have HN := Lib.hid (HGOOD.out (by unfold goodAt; rw [hb, if_pos rfl, HCK.out, decide_eq_true (by omega : (0 : Int) ≤ (xn : Int)), decide_eq_true (by omega : (xn : Int) ≤ (k : Int)), hid, decide_eq_true rfl]; rfl))
          rw [hid] at qx
          clear hb hid
          go_wp2_with fail
          go_round
          case rel => exact ⟨k + 1, by omega, by go_num, HN.out, k0', k1', k2', HB'⟩
          case measure => simp [intOf]; omega
        · have hxx : (cl cs xn != (xn : Int)) = true := by simpa using hid
          have HN := Lib.hid (HBAD.out (by unfold goodAt; rw [hb, if_pos rfl, HCK.out, decide_eq_true (by omega : (0 : Int) ≤ (xn : Int)), decide_eq_true (by omega : (xn : Int) ≤ (k : Int)), decide_eq_false hid]; rfl))
          clear hb hid HCK
          generalize cl cs (xn : Int) = y at qx hxx
          rw [← HN.out.1] at k2'
          have HQF := Lib.hid HN.out.2
          obtain ⟨q0, q1, q2, q3, q4, q5, q6, q7, q8⟩ := case9_cells k2'
          obtain ⟨z0, z1, z2, z3, z4, z5, z6, z7, z8⟩ := case9_cells k1'
          have r14 := k1'.frozen
          have l14 := k1'.lt
          clear HN HBAD HGOOD HG
          go_wp2_with fail
          have kR := Blk.nine (v0 := .int .i64 (cl R 0)) (v1 := .int .i64 (cl R 1)) (v2 := .int .i64 (cl R 2)) (v3 := .int .i64 (cl R 3)) (v4 := .int .i64 (cl R 4)) (v5 := .int .i64 (cl R 5)) (v6 := .int .i64 (cl R 6)) (v7 := .int .i64 (cl R 7)) (v8 := .int .i64 (cl R 8)) k1'
          have hBR := below9 (g := w.heap.size + 1) (v0 := .int .i64 (cl R 0)) (v1 := .int .i64 (cl R 1)) (v2 := .int .i64 (cl R 2)) (v3 := .int .i64 (cl R 3)) (v4 := .int .i64 (cl R 4)) (v5 := .int .i64 (cl R 5)) (v6 := .int .i64 (cl R 6)) (v7 := .int .i64 (cl R 7)) (v8 := .int .i64 (cl R 8)) HB'.out (by omega)
          obtain ⟨V, hVe⟩ : ∃ V, V = (set9 W3 (w.heap.size + 1) (.int .i64 (cl R 0)) (.int .i64 (cl R 1)) (.int .i64 (cl R 2)) (.int .i64 (cl R 3)) (.int .i64 (cl R 4)) (.int .i64 (cl R 5)) (.int .i64 (cl R 6)) (.int .i64 (cl R 7)) (.int .i64 (cl R 8))) := ⟨_, rfl⟩
          show bodyPost _ _ _ _ _ (set9 W3 (w.heap.size + 1) (.int .i64 (cl R 0)) (.int .i64 (cl R 1)) (.int .i64 (cl R 2)) (.int .i64 (cl R 3)) (.int .i64 (cl R 4)) (.int .i64 (cl R 5)) (.int .i64 (cl R 6)) (.int .i64 (cl R 7)) (.int .i64 (cl R 8)))
          rw [← hVe] at kR hBR ⊢
          have kR' : Blk V (w.heap.size + 1) tC (case9 R) := kR
          obtain ⟨p0, p1, p2, p3, p4, p5, p6, p7, p8⟩ := case9_cells kR'
          clear hVe kR
          exact bodyPost_ret (v := .tuple #[.agg (case9 R), .bool false]) (by simp [results, Try.results90, go_sem, p0, p1, p2, p3, p4, p5, p6, p7, p8]) rfl ⟨by rw [HQF.out], hBR⟩
    · obtain rfl : k = 9 := by omega
      have hkn : ¬ ((9 : Int) < (cs.length : Int)) := by have := hll.out; omega
      rw [readTo_full H9.out] at k2
      have HOKS := Lib.hid (readL_ok (a := a) H9.out HG.out)
      have hRd : R = cs := by rw [HRE.out]; exact HOKS.out.1
      have HPQ : Hid (poss a cs 8 = q) := by show _ = _; rw [HQE.out, HOKS.out.2, ← full_poss HOK.out.1 HOK.out.2]
      obtain ⟨d, hd⟩ : ∃ d, d = cs := ⟨_, rfl⟩
      have HG2 : Hid (∀ j : Nat, j < 9 → S.testBit j = true → 0 ≤ cl cs j ∧ cl cs j ≤ j) := fun j hj hb => ((good_iff (HG.out j hj)).1 hb).1
      have HRD : Hid (R = d) := by show _ = _; rw [hd]; exact hRd
      clear hRd
      rw [← hd] at H9 k2 HPQ HG2
      clear hd
      have hlen9 : (cs.length : Int) = 9 := hll.out
      have hB := HB.out
      have HCLS : Hid (∀ x ∈ a.atoms, x.a ≤ 8 → isTermB (cl d x.a) = true) := by
        intro x hx h8
        have h1 := (HOK.out.2 x hx).1
        have h2 : x.a ∈ termsL a := by
          simp only [termsL, List.mem_append, List.mem_flatMap]
          exact Or.inr ⟨x, hx, by simp [atomT]⟩
        have h3 := (HG2.out x.a.toNat (by omega) (HT.out _ h2))
        rw [show ((x.a.toNat : Nat) : Int) = x.a from Int.toNat_of_nonneg h1.1] at h3
        rw [isTermB_iff]
        omega
      have k9 := Lib.hid (k2.case H9.out)
      have hBd : Below w.heap.size w wr.drew := hB.drew
      obtain ⟨q0, q1, q2, q3, q4, q5, q6, q7, q8⟩ := case9_cells k2
      have hne : w.heap.size + 1 ≠ w.heap.size + 1 + 1 := by omega
      (replace qk0 := k0.cell; replace rk0 := k0.frozen; replace lk0 := k0.lt)
      go_wp2_with fail
      refine wp_region_noPanic ?_
      refine wp_region_held_drew (S := (fun w' => (∀ i, w'.cell? ⟨w.heap.size + 1 + 1, i, none⟩ = (case9 d)[i]?) ∧ (∀ i, w'.cell? ⟨w.heap.size, i, none⟩ = #[.slice A1 a.facts.length c1, .slice A2 a.atoms.length c2][i]?))) (by kernel_rfl) (⟨k2.drew.cell, k0.drew.cell⟩) (fun hHeld => ?_)
      refine wpAnyH_take (i := 0) (v := ?_) rfl (by kernel_rfl) (by kernel_rfl) (by kernel_rfl) (fun _ _ _ h => h) (Or.inl ⟨by rfl, fun w hSw => ?_⟩) hHeld ?_
      rotate_left
      · ((try dsimp only at hSw); go_split_ands; go_simp; (try with_reducible rfl))
      try simp only [Act.put, List.getElem_toArray, List.getElem_cons_zero, List.getElem_cons_succ, List.setIfInBounds_toArray, List.set_cons_zero, List.set_cons_succ]
      refine wpAnyH_take (i := 1) (v := ?_) rfl (by kernel_rfl) (by kernel_rfl) (by kernel_rfl) (fun _ _ _ h => h) (Or.inl ⟨by rfl, fun w hSw => ?_⟩) hHeld ?_
      rotate_left
      · ((try dsimp only at hSw); go_split_ands; go_simp; (try with_reducible rfl))
      try simp only [Act.put, List.getElem_toArray, List.getElem_cons_zero, List.getElem_cons_succ, List.setIfInBounds_toArray, List.set_cons_zero, List.set_cons_succ]
      refine wpAnyH_ready (rs := [2]) (by kernel_rfl) (by simp) ?_
      refine AllReadyH.cons rfl (fun K hK => ?_) AllReadyH.nil
      try simp only [List.getElem_toArray, List.getElem_cons_zero, List.getElem_cons_succ]
      (go_simp; refine (c_impl_possible _ a 8 d (w.heap.size + 1 + 1) _ (hV.out.below hBd) k9.out.drew H9.out HOK.out.1 HOK.out.2 HCLS.out).mono ?_; rintro e w4 ⟨rfl, hB4⟩; rw [HPQ.out]; have k04 := k0.drew.next hB4; have k14 := k1.drew.next hB4; have k24 := k2.drew.next hB4; have HB4 := Lib.hid (bgo hBd hB4))
      refine hK.out _ _ (⟨k24.cell, k04.cell⟩) (fun hHeldN => ?_)
      clear hHeld hK K
      have hHeld := hHeldN
      clear hHeldN
      try simp only [Act.put, List.getElem_toArray, List.getElem_cons_zero, List.getElem_cons_succ, List.setIfInBounds_toArray, List.set_cons_zero, List.set_cons_succ]
      clear q0 q1 q2 q3 q4 q5 q6 q7 q8
      obtain ⟨z0, z1, z2, z3, z4, z5, z6, z7, z8⟩ := case9_cells k14
      have r14 := k14.frozen
      have l14 := k14.lt
      refine wpAnyH_ready (rs := [3]) (by kernel_rfl) (by simp) ?_
      refine AllReadyH.cons rfl (fun K hK => ?_) AllReadyH.nil
      try simp only [List.getElem_toArray, List.getElem_cons_zero, List.getElem_cons_succ]
      go_simp
      refine hK.out _ _ (⟨(k24.nineFar (by omega)).cell, (k04.nineFar (by omega)).cell⟩) (fun hHeldN => ?_)
      clear hHeld hK K
      have hHeld := hHeldN
      clear hHeldN
      try simp only [Act.put, List.getElem_toArray, List.getElem_cons_zero, List.getElem_cons_succ, List.setIfInBounds_toArray, List.set_cons_zero, List.set_cons_succ]
      refine wpAnyH_take (i := 4) (v := ?_) rfl (by kernel_rfl) (by kernel_rfl) (by kernel_rfl) (fun _ _ _ h => h) (Or.inl ⟨by rfl, fun w hSw => ?_⟩) hHeld ?_
      rotate_left
      · ((try dsimp only at hSw); go_split_ands; go_simp; (try with_reducible rfl))
      try simp only [Act.put, List.getElem_toArray, List.getElem_cons_zero, List.getElem_cons_succ, List.setIfInBounds_toArray, List.set_cons_zero, List.set_cons_succ]
      refine wpAnyH_done (by kernel_rfl) ?_ _
      refine NoPanic.normal ?_
      have kR := Blk.nine (v0 := .int .i64 (cl d 0)) (v1 := .int .i64 (cl d 1)) (v2 := .int .i64 (cl d 2)) (v3 := .int .i64 (cl d 3)) (v4 := .int .i64 (cl d 4)) (v5 := .int .i64 (cl d 5)) (v6 := .int .i64 (cl d 6)) (v7 := .int .i64 (cl d 7)) (v8 := .int .i64 (cl d 8)) k14
      have hBR := below9 (g := w.heap.size + 1) (v0 := .int .i64 (cl d 0)) (v1 := .int .i64 (cl d 1)) (v2 := .int .i64 (cl d 2)) (v3 := .int .i64 (cl d 3)) (v4 := .int .i64 (cl d 4)) (v5 := .int .i64 (cl d 5)) (v6 := .int .i64 (cl d 6)) (v7 := .int .i64 (cl d 7)) (v8 := .int .i64 (cl d 8)) HB4.out (by omega)
      obtain ⟨V, hVe⟩ : ∃ V, V = (set9 w4 (w.heap.size + 1) (.int .i64 (cl d 0)) (.int .i64 (cl d 1)) (.int .i64 (cl d 2)) (.int .i64 (cl d 3)) (.int .i64 (cl d 4)) (.int .i64 (cl d 5)) (.int .i64 (cl d 6)) (.int .i64 (cl d 7)) (.int .i64 (cl d 8))) := ⟨_, rfl⟩
      show Exit.then _ _ Exit.normal _ (set9 w4 (w.heap.size + 1) (.int .i64 (cl d 0)) (.int .i64 (cl d 1)) (.int .i64 (cl d 2)) (.int .i64 (cl d 3)) (.int .i64 (cl d 4)) (.int .i64 (cl d 5)) (.int .i64 (cl d 6)) (.int .i64 (cl d 7)) (.int .i64 (cl d 8)))
      rw [← hVe] at kR hBR ⊢
      have kR' : Blk V (w.heap.size + 1) tC (case9 d) := kR
      obtain ⟨p0, p1, p2, p3, p4, p5, p6, p7, p8⟩ := case9_cells kR'
      clear hVe kR k14 z0 z1 z2 z3 z4 z5 z6 z7 z8 r14 l14
      go_wp2_with fail
      exact bodyPost_ret (v := .tuple #[.agg (case9 d), .bool q]) (by simp [results, Try.results90, go_sem, p0, p1, p2, p3, p4, p5, p6, p7, p8]) rfl ⟨by rw [HRD.out], hBR⟩

--@ impl.EntailsCase
set_option maxRecDepth 100000 in
set_option maxHeartbeats 6400000 in
theorem c_impl_EntailsAny {lo hi lo' hi' lo2 hi2 : Nat} (v v' : Value) (a b : Asn) (cs : List Int) (A : Option Addr) (c : Nat) (w : World) (h : AsnV w lo hi v a) (h' : AsnV w lo' hi' v' b) (hA : IntsV w lo2 hi2 A cs) :
    Calls Try.prog 21 #[v, v', .slice A cs.length c] w fun e w' => e = .returned (.bool (entC a b cs)) ∧ Below w.heap.size w w' := by
  have hV := Lib.hid h
  have hV' := Lib.hid h'
  have HX := Lib.hid hA
  obtain ⟨A1, c1, A2, c2, rfl, -, -⟩ := h
  obtain ⟨A3, c3, A4, c4, rfl, -, -⟩ := h'
  have hTb := tset_lt (termsL b)
  clear hA
  go_enter Try.func21, Try.ntmps21
  have k0 : Blk ((w.alloc (.cells #[.slice A1 a.facts.length c1, .slice A2 a.atoms.length c2] tAs)).alloc (.cells #[.slice A3 b.facts.length c3, .slice A4 b.atoms.length c4] tAs)) w.heap.size tAs #[.slice A1 a.facts.length c1, .slice A2 a.atoms.length c2] := blks
  have k1 : Blk ((w.alloc (.cells #[.slice A1 a.facts.length c1, .slice A2 a.atoms.length c2] tAs)).alloc (.cells #[.slice A3 b.facts.length c3, .slice A4 b.atoms.length c4] tAs)) (w.heap.size + 1) tAs #[.slice A3 b.facts.length c3, .slice A4 b.atoms.length c4] := blks
  go_wp2_with fail
  refine (c_impl_AssertionValid _ a _ (hV.out.below bel)).mono ?_
  rintro e w1 ⟨rfl, hB1⟩
  have hB : Below w.heap.size w w1 := bgo (w := w) bel hB1
  (replace k0 := k0.next hB1; replace qk0 := k0.cell; replace rk0 := k0.frozen; replace lk0 := k0.lt; replace k1 := k1.next hB1; replace qk1 := k1.cell; replace rk1 := k1.frozen; replace lk1 := k1.lt)
  clear hB1
  cases ha : a.valid
  · have HE : Hid (entC a b cs = false) := by show _ = _; unfold entC; rw [ha]; rfl
    clear ha hTb
    go_wp2_with fail
    go_ret
    exact ⟨ret_bool HE.out.symm, hB⟩
  have HA := Lib.hid ha
  clear ha
  go_wp2_with fail
  refine (c_impl_AssertionValid _ b _ (hV'.out.below hB)).mono ?_
  rintro e w2 ⟨rfl, hB2⟩
  (replace hB := bgo hB hB2; replace k0 := k0.next hB2; replace qk0 := k0.cell; replace rk0 := k0.frozen; replace lk0 := k0.lt; replace k1 := k1.next hB2; replace qk1 := k1.cell; replace rk1 := k1.frozen; replace lk1 := k1.lt)
  clear hB2
  cases hb : b.valid
  · have HE : Hid (entC a b cs = false) := by show _ = _; unfold entC; rw [hb]; simp
    clear hb hTb
    go_wp2_with fail
    go_ret
    exact ⟨ret_bool HE.out.symm, hB⟩
  have HBV := Lib.hid hb
  clear hb
  obtain ⟨T, hTe⟩ : ∃ T, T = tset (termsL b) := ⟨_, rfl⟩
  have HTE := Lib.hid hTe
  rw [← hTe] at hTb
  obtain ⟨D0, hD0⟩ : ∃ D0, D0 = readL (caseS a T) cs := ⟨_, rfl⟩
  obtain ⟨q, hq⟩ : ∃ q, q = decide (cs ∈ cases a (caseS a T)) := ⟨_, rfl⟩
  have H9 : Hid (D0.length = 9) := by show _ = _; rw [hD0]; exact readL_length
  have HD0 := Lib.hid hD0
  have HQ0 := Lib.hid hq
  clear hTe hD0 hq
  go_wp2_with fail
  refine wp_region_noPanic ?_
  refine wp_region_held_drew (S := (fun w' => (∀ i, w'.cell? ⟨w.heap.size, i, none⟩ = #[.slice A1 a.facts.length c1, .slice A2 a.atoms.length c2][i]?) ∧ (∀ i, w'.cell? ⟨w.heap.size + 1, i, none⟩ = #[.slice A3 b.facts.length c3, .slice A4 b.atoms.length c4][i]?))) (by kernel_rfl) (⟨Blk.cell blks, Blk.cell blks⟩) (fun hHeld => ?_)
  refine wpAnyH_take (i := 0) (v := ?_) rfl (by kernel_rfl) (by kernel_rfl) (by kernel_rfl) (fun _ _ _ h => h) (Or.inl ⟨by rfl, fun w hSw => ?_⟩) hHeld ?_
  rotate_left
  · ((try dsimp only at hSw); go_split_ands; go_simp; (try with_reducible rfl))
  try simp only [Act.put, List.getElem_toArray, List.getElem_cons_zero, List.getElem_cons_succ, List.setIfInBounds_toArray, List.set_cons_zero, List.set_cons_succ]
  refine wpAnyH_take (i := 1) (v := ?_) rfl (by kernel_rfl) (by kernel_rfl) (by kernel_rfl) (fun _ _ _ h => h) (Or.inl ⟨by rfl, fun w hSw => ?_⟩) hHeld ?_
  rotate_left
  · ((try dsimp only at hSw); go_split_ands; go_simp; (try with_reducible rfl))
  try simp only [Act.put, List.getElem_toArray, List.getElem_cons_zero, List.getElem_cons_succ, List.setIfInBounds_toArray, List.set_cons_zero, List.set_cons_succ]
  refine wpAnyH_take (i := 3) (v := ?_) rfl (by kernel_rfl) (by kernel_rfl) (by kernel_rfl) (fun _ _ _ h => h) (Or.inl ⟨by rfl, fun w hSw => ?_⟩) hHeld ?_
  rotate_left
  · ((try dsimp only at hSw); go_split_ands; go_simp; (try with_reducible rfl))
  try simp only [Act.put, List.getElem_toArray, List.getElem_cons_zero, List.getElem_cons_succ, List.setIfInBounds_toArray, List.set_cons_zero, List.set_cons_succ]
  refine wpAnyH_par [2, 4, 5, 6, 7, 8, 9] #[true, true, true, true, true, true, true, true, true, true, false] 7 (by kernel_rfl) hHeld
    (fun a0 D a1 w' => Hid (Below w.heap.size w w' ∧ Blk w' w.heap.size tAs #[.slice A1 a.facts.length c1, .slice A2 a.atoms.length c2] ∧ Blk w' (w.heap.size + 1) tAs #[.slice A3 b.facts.length c3, .slice A4 b.atoms.length c4]) ∧
      ∃ v20 v22 v17 v23 v24 v7, a1 = (((((a0.put (some 20) v20).put (some 22) v22).put (some 17) v17).put (some 23) v23).put (some 24) v24).put (some 7) v7 ∧
        Hid (dn D 2 = true → v20 = .int .u16 T) ∧ Hid (dn D 4 = true → v22 = .tuple #[.agg (case9 D0), .bool q]) ∧ Hid (dn D 5 = true → v17 = .tuple #[.agg (case9 D0), .bool q]) ∧
        Hid (dn D 6 = true → v23 = .agg (case9 D0)) ∧ Hid (dn D 7 = true → v24 = .bool q) ∧
        Hid (dn D 9 = true → dn D 8 = true) ∧ Hid (dn D 8 = true → ∃ x, v7 = .pointer (some ⟨x, 0, none⟩) ∧ w.heap.size + 1 < x ∧ Blk w' x tC (case9 (if dn D 9 = true then D0 else zeros)))) ?start ?steps ?fin
  case start => exact ⟨⟨hB.drew, k0.drew, k1.drew⟩, undef, undef, undef, undef, undef, undef, rfl, fun h => absurd h (by decide), fun h => absurd h (by decide), fun h => absurd h (by decide), fun h => absurd h (by decide), fun h => absurd h (by decide), fun h => absurd h (by decide), fun h => absurd h (by decide)⟩
  case steps =>
    refine ParSteps.cons rfl (fun D a1 w' hu hd hI hS K' hK G hG => ?_) (ParSteps.cons rfl (fun D a1 w' hu hd hI hS K' hK G hG => ?_) (ParSteps.cons rfl (fun D a1 w' hu hd hI hS K' hK G hG => ?_) (ParSteps.cons rfl (fun D a1 w' hu hd hI hS K' hK G hG => ?_) (ParSteps.cons rfl (fun D a1 w' hu hd hI hS K' hK G hG => ?_) (ParSteps.cons rfl (fun D a1 w' hu hd hI hS K' hK G hG => ?_) (ParSteps.cons rfl (fun D a1 w' hu hd hI hS K' hK G hG => ?_) (ParSteps.nil)))))))
    · obtain ⟨HW, v20, v22, v17, v23, v24, v7, ha, h2, h4, h5, h6, h7, h9, h8⟩ := hI
      rw [ha] at hG
      clear ha a1
      refine hG ?_
      clear hG hd
      try simp only [Act.put, List.setIfInBounds_toArray, List.set_cons_zero, List.set_cons_succ]
      go_simp
      refine (c_impl_termsIn _ b _ (hV'.out.below HW.out.1)).mono ?_
      rintro e w3 ⟨rfl, hB3⟩
      rw [← HTE.out]
      refine hK.out _ _ ⟨(HW.out.2.1.next hB3).cell, (HW.out.2.2.next hB3).cell⟩ ⟨⟨bgo HW.out.1 hB3, HW.out.2.1.next hB3, HW.out.2.2.next hB3⟩, .int .u16 T, v22, v17, v23, v24, v7, rfl, fun _ => rfl, dn_keep (by decide) h4.out id, dn_keep (by decide) h5.out id, dn_keep (by decide) h6.out id, dn_keep (by decide) h7.out id, fun h => by rw [dn_ne (by decide)] at h ⊢; exact h9.out h, fun h => by rw [dn_ne (by decide)] at h; rw [dn_ne (by decide)]; obtain ⟨x, ex, hx, kx⟩ := h8.out h; exact ⟨x, ex, hx, kx.next hB3⟩⟩
    · obtain ⟨HW, v20, v22, v17, v23, v24, v7, ha, h2, h4, h5, h6, h7, h9, h8⟩ := hI
      rw [ha] at hG
      clear ha a1
      have t : dn D 2 = true := hd ⟨2, .data⟩ (by simp) (by decide)
      have e2 := h2.out t
      subst e2
      clear t
      refine hG ?_
      clear hG hd
      try simp only [Act.put, List.setIfInBounds_toArray, List.set_cons_zero, List.set_cons_succ]
      go_simp
      refine (c_impl_readAny _ a T cs A c _ (hV.out.below HW.out.1) (HX.out.below HW.out.1) HA.out hTb).mono ?_
      rintro e w3 ⟨rfl, hB3⟩
      rw [← HD0.out, ← HQ0.out]
      refine hK.out _ _ ⟨(HW.out.2.1.next hB3).cell, (HW.out.2.2.next hB3).cell⟩ ⟨⟨bgo HW.out.1 hB3, HW.out.2.1.next hB3, HW.out.2.2.next hB3⟩, .int .u16 T, .tuple #[.agg (case9 D0), .bool q], v17, v23, v24, v7, rfl, dn_keep (by decide) h2.out id, fun _ => rfl, dn_keep (by decide) h5.out id, dn_keep (by decide) h6.out id, dn_keep (by decide) h7.out id, fun h => by rw [dn_ne (by decide)] at h ⊢; exact h9.out h, fun h => by rw [dn_ne (by decide)] at h; rw [dn_ne (by decide)]; obtain ⟨x, ex, hx, kx⟩ := h8.out h; exact ⟨x, ex, hx, kx.next hB3⟩⟩
    · obtain ⟨HW, v20, v22, v17, v23, v24, v7, ha, h2, h4, h5, h6, h7, h9, h8⟩ := hI
      rw [ha] at hG
      clear ha a1
      have t : dn D 4 = true := hd ⟨4, .data⟩ (by simp) (by decide)
      have e2 := h4.out t
      subst e2
      clear t
      refine hG ?_
      clear hG hd
      try simp only [Act.put, List.setIfInBounds_toArray, List.set_cons_zero, List.set_cons_succ]
      go_simp
      refine hK.out _ _ hS ⟨HW.out, v20, .tuple #[.agg (case9 D0), .bool q], .tuple #[.agg (case9 D0), .bool q], v23, v24, v7, rfl, dn_keep (by decide) h2.out id, dn_keep (by decide) h4.out id, fun _ => rfl, dn_keep (by decide) h6.out id, dn_keep (by decide) h7.out id, fun h => by rw [dn_ne (by decide)] at h ⊢; exact h9.out h, fun h => by rw [dn_ne (by decide)] at h; rw [dn_ne (by decide)]; obtain ⟨x, ex, hx, kx⟩ := h8.out h; exact ⟨x, ex, hx, kx⟩⟩
    · obtain ⟨HW, v20, v22, v17, v23, v24, v7, ha, h2, h4, h5, h6, h7, h9, h8⟩ := hI
      rw [ha] at hG
      clear ha a1
      have t : dn D 5 = true := hd ⟨5, .data⟩ (by simp) (by decide)
      have e2 := h5.out t
      subst e2
      clear t
      refine hG ?_
      clear hG hd
      try simp only [Act.put, List.setIfInBounds_toArray, List.set_cons_zero, List.set_cons_succ]
      go_simp
      refine hK.out _ _ hS ⟨HW.out, v20, v22, .tuple #[.agg (case9 D0), .bool q], .agg (case9 D0), v24, v7, rfl, dn_keep (by decide) h2.out id, dn_keep (by decide) h4.out id, dn_keep (by decide) h5.out id, fun _ => rfl, dn_keep (by decide) h7.out id, fun h => by rw [dn_ne (by decide)] at h ⊢; exact h9.out h, fun h => by rw [dn_ne (by decide)] at h; rw [dn_ne (by decide)]; obtain ⟨x, ex, hx, kx⟩ := h8.out h; exact ⟨x, ex, hx, kx⟩⟩
    · obtain ⟨HW, v20, v22, v17, v23, v24, v7, ha, h2, h4, h5, h6, h7, h9, h8⟩ := hI
      rw [ha] at hG
      clear ha a1
      have t : dn D 5 = true := hd ⟨5, .data⟩ (by simp) (by decide)
      have e2 := h5.out t
      subst e2
      clear t
      refine hG ?_
      clear hG hd
      try simp only [Act.put, List.setIfInBounds_toArray, List.set_cons_zero, List.set_cons_succ]
      go_simp
      refine hK.out _ _ hS ⟨HW.out, v20, v22, .tuple #[.agg (case9 D0), .bool q], v23, .bool q, v7, rfl, dn_keep (by decide) h2.out id, dn_keep (by decide) h4.out id, dn_keep (by decide) h5.out id, dn_keep (by decide) h6.out id, fun _ => rfl, fun h => by rw [dn_ne (by decide)] at h ⊢; exact h9.out h, fun h => by rw [dn_ne (by decide)] at h; rw [dn_ne (by decide)]; obtain ⟨x, ex, hx, kx⟩ := h8.out h; exact ⟨x, ex, hx, kx⟩⟩
    · obtain ⟨HW, v20, v22, v17, v23, v24, v7, ha, h2, h4, h5, h6, h7, h9, h8⟩ := hI
      rw [ha] at hG
      clear ha a1
      have u8 := dn_un hu
      have U9 : Hid (dn D 9 = false) := by show _ = _; cases e : dn D 9; rfl; have := h9.out e; rw [u8] at this; cases this
      clear u8
      refine hG ?_
      clear hG hd
      try simp only [Act.put, List.setIfInBounds_toArray, List.set_cons_zero, List.set_cons_succ]
      go_simp
      have hlt := HW.out.2.2.lt
      have hB2 : Below w.heap.size w (w'.alloc (.cells (case9 zeros) tC)) := HW.out.1.alloc HW.out.1.size _
      refine hK.out _ _ ⟨(HW.out.2.1.alloc _).cell, (HW.out.2.2.alloc _).cell⟩ ⟨⟨hB2, HW.out.2.1.alloc _, HW.out.2.2.alloc _⟩, v20, v22, v17, v23, v24, .pointer (some ⟨w'.heap.size, 0, none⟩), rfl, dn_keep (by decide) h2.out id, dn_keep (by decide) h4.out id, dn_keep (by decide) h5.out id, dn_keep (by decide) h6.out id, dn_keep (by decide) h7.out id, fun _ => dn_self hu, fun _ => ⟨_, rfl, hlt, by rw [dn_ne (by decide), if_neg (by rw [U9.out]; decide)]; exact Blk.new _ _ _⟩⟩
    · obtain ⟨HW, v20, v22, v17, v23, v24, v7, ha, h2, h4, h5, h6, h7, h9, h8⟩ := hI
      rw [ha] at hG
      clear ha a1
      have t : dn D 6 = true := hd ⟨6, .data⟩ (by simp) (by decide)
      have e2 := h6.out t
      subst e2
      clear t
      have t8 : dn D 8 = true := hd ⟨8, .data⟩ (by simp) (by decide)
      have T8 := Lib.hid t8
      obtain ⟨x, rfl, hx, kx0⟩ := h8.out t8
      have u9 := dn_un hu
      have kx : Blk w' x tC (case9 zeros) := by rw [u9, if_neg (by decide)] at kx0; exact kx0
      clear kx0 t8 u9
      have kR' := Blk.nine (v0 := .int .i64 (cl D0 0)) (v1 := .int .i64 (cl D0 1)) (v2 := .int .i64 (cl D0 2)) (v3 := .int .i64 (cl D0 3)) (v4 := .int .i64 (cl D0 4)) (v5 := .int .i64 (cl D0 5)) (v6 := .int .i64 (cl D0 6)) (v7 := .int .i64 (cl D0 7)) (v8 := .int .i64 (cl D0 8)) kx
      have kR : Blk (set9 w' x (.int .i64 (cl D0 0)) (.int .i64 (cl D0 1)) (.int .i64 (cl D0 2)) (.int .i64 (cl D0 3)) (.int .i64 (cl D0 4)) (.int .i64 (cl D0 5)) (.int .i64 (cl D0 6)) (.int .i64 (cl D0 7)) (.int .i64 (cl D0 8))) x tC (case9 D0) := kR'
      obtain ⟨z0, z1, z2, z3, z4, z5, z6, z7, z8⟩ := case9_cells kx
      have rx := kx.frozen
      have lx := kx.lt
      refine hG ?_
      clear hG hd
      try simp only [Act.put, List.setIfInBounds_toArray, List.set_cons_zero, List.set_cons_succ]
      go_simp
      refine hK.out _ _ ⟨(HW.out.2.1.nineFar (by omega)).cell, (HW.out.2.2.nineFar (by omega)).cell⟩ ⟨⟨below9 HW.out.1 (by omega), HW.out.2.1.nineFar (by omega), HW.out.2.2.nineFar (by omega)⟩, v20, v22, v17, .agg (case9 D0), v24, .pointer (some ⟨x, 0, none⟩), rfl, dn_keep (by decide) h2.out id, dn_keep (by decide) h4.out id, dn_keep (by decide) h5.out id, dn_keep (by decide) h6.out id, dn_keep (by decide) h7.out id, fun _ => by rw [dn_ne (by decide)]; exact T8.out, fun _ => ⟨x, rfl, hx, by rw [dn_self hu, if_pos rfl]; exact kR⟩⟩
  case fin =>
    rintro a1 V hHeld ⟨HW, v20, v22, v17, v23, v24, v7, rfl, h2, h4, h5, h6, h7, -, h8⟩
    obtain rfl := h2.out (by decide)
    obtain rfl := h4.out (by decide)
    obtain rfl := h5.out (by decide)
    obtain rfl := h6.out (by decide)
    obtain rfl := h7.out (by decide)
    obtain ⟨x, rfl, hx, kx⟩ := h8.out (by decide)
    have kR' : Blk V x tC (case9 D0) := by rw [if_pos (by decide)] at kx; exact kx
    have hBR := HW.out.1
    have k05 := HW.out.2.1
    have k15 := HW.out.2.2
    clear h2 h4 h5 h6 h7 h8 HW k0 k1 qk0 rk0 lk0 qk1 rk1 lk1 kx
    try simp only [Act.put, List.setIfInBounds_toArray, List.set_cons_zero, List.set_cons_succ]
    refine wpAnyH_take (i := 10) (v := ?_) rfl (by kernel_rfl) (by kernel_rfl) (by kernel_rfl) (fun _ _ _ h => h) (Or.inl ⟨by rfl, fun w hSw => ?_⟩) hHeld ?_
    rotate_left
    · ((try dsimp only at hSw); go_split_ands; go_simp; (try with_reducible rfl))
    try simp only [Act.put, List.getElem_toArray, List.getElem_cons_zero, List.getElem_cons_succ, List.setIfInBounds_toArray, List.set_cons_zero, List.set_cons_succ]
    refine wpAnyH_done (by kernel_rfl) ?_ _
    refine NoPanic.normal ?_
    obtain ⟨p0, p1, p2, p3, p4, p5, p6, p7, p8⟩ := case9_cells kR'
    clear hHeld
    (replace qk05 := k05.cell; replace rk05 := k05.frozen; replace lk05 := k05.lt; replace qk15 := k15.cell; replace rk15 := k15.frozen; replace lk15 := k15.lt)
    cases hq : q
    · have HE : Hid (entC a b cs = false) := by
        show _ = _
        unfold entC
        rw [← HTE.out, ← HQ0.out, hq]; simp
      clear hq
      go_wp2_with fail
      go_ret
      exact ⟨ret_bool HE.out.symm, hBR⟩
    · have hmem : cs ∈ cases a (caseS a T) := by have h := HQ0.out; rw [hq] at h; exact of_decide_eq_true h.symm
      obtain rfl : D0 = cs := by rw [HD0.out]; exact readL_case hmem
      have HE : Hid (entC a b D0 = entB a b D0) := by
        show _ = _
        unfold entC
        rw [HA.out, HBV.out, ← HTE.out, ← HQ0.out, hq]; rfl
      clear hq hmem
      go_wp2_with fail
      refine (c_impl_matchCase _ _ a b D0 _ (hV.out.below hBR) (hV'.out.below hBR) HA.out HBV.out H9.out).mono ?_
      rintro e w6 ⟨r6, rfl, hB6⟩
      have hB7 := bgo hBR hB6
      go_wp2_with fail
      go_ret
      exact ⟨ret_bool HE.out.symm, hB7⟩
end Go.Proofs.Ytmjgcdolnkdfoaa

/- Contracts: the spec's EntailsCase for any list. -/
namespace Go.Proofs.Ytmjgcdolnkdfoaa
open Go Go.RowKit Go.Proofs
attribute [local go_sem ↓] Go.wp_at_zero Go.wp_at_succ

theorem fitsS_full {c : List Int} {fs : List Fct} (h : ∀ f ∈ fs, 0 ≤ cl c f.a ∧ 0 ≤ cl c f.b) : fitsS c fs = fs.all (Fct.fits c) := by
  unfold fitsS
  induction fs with
  | nil => rfl
  | cons f fs ih =>
    rw [List.all_cons, List.all_cons, ih fun g hg => h g (List.mem_cons_of_mem _ hg)]
    have := h f List.mem_cons_self
    rw [decide_eq_true this.1, decide_eq_true this.2]
    cases f.fits c <;> rfl
theorem good_zero {S : Nat} {cs : List Int} (h0 : S.testBit 0 = true) : goodAt S cs 0 = decide (cl cs 0 = 0) := by
  unfold goodAt
  rw [h0, if_pos rfl]
  rw [Bool.eq_iff_iff]
  simp only [Bool.and_eq_true, decide_eq_true_eq]
  constructor
  · rintro ⟨h1, h2, -⟩
    have e : ((0 : Nat) : Int) = 0 := rfl
    rw [e] at h1 h2
    omega
  · intro h
    have e : ((0 : Nat) : Int) = 0 := rfl
    rw [e, h, h]
    omega

--@ spec.l6IsCase
set_option maxRecDepth 100000 in
set_option maxHeartbeats 6400000 in
theorem c_spec_l6IsCase {lo hi lo2 hi2 lo3 hi3 : Nat} (v : Value) (a : Asn) (T S : Nat) (cs : List Int) (B C : Option Addr) (bc cc : Nat) (w : World) (h : AsnV w lo hi v a) (hT : BoolsV w lo2 hi2 B (flagsOf T)) (hC : IntsV w lo3 hi3 C cs) (hv : a.valid = true) (h0 : S.testBit 0 = true) (hS : ∀ t ∈ termsL a, S.testBit t.toNat = true) (hST : ∀ j : Nat, 1 ≤ j → j < 9 → T.testBit j = S.testBit j) :
    Calls Try.prog 116 #[v, .slice B 9 bc, .slice C cs.length cc] w fun e w' => e = .returned (.bool (decide (cs ∈ cases a S))) ∧ Below w.heap.size w w' := by
  have hV := Lib.hid h
  have HT := Lib.hid hT
  have HC := Lib.hid hC
  have HCL := Lib.hid hC.le
  have HOK := Lib.hid (Asn.valid_ok hv)
  have HS := Lib.hid hS
  have HST := Lib.hid hST
  obtain ⟨fb, fo, rfl, lfb⟩ := flags_addr hT
  obtain ⟨A1, c1, A2, c2, rfl, h1, h2⟩ := h
  have H1 := Lib.hid h1
  have H2 := Lib.hid h2
  have hcl := hC.le
  clear h1 h2 hT hC hv hS hST
  by_cases h9 : cs.length = 9
  rotate_left
  · have hn9 : ((cs.length : Int) != 9) = true := by simp; omega
    have E : Hid (decide (cs ∈ cases a S) = false) := by show _ = _; rw [decide_eq_false_iff_not]; exact fun h => h9 (case_iff.1 h).1
    clear h9
    go_enter Try.func116, Try.ntmps116
    go_wp2_with fail
    go_ret
    exact ⟨ret_bool E.out.symm, bel⟩
  have H9 := Lib.hid h9
  have hn9 : ((cs.length : Int) != 9) = false := by simp; omega
  have hz : 0 < cs.length := by omega
  obtain ⟨cb, co, rfl, hc0⟩ := HC.out.at hz
  have hcl0 : cl cs 0 = cs[0] := by unfold cl; rw [show (0 : Int).toNat = 0 from rfl, List.getElem?_eq_getElem hz]; rfl
  obtain ⟨x, hx⟩ : ∃ x, x = cs[0] := ⟨_, rfl⟩
  rw [← hx] at hc0 hcl0
  obtain ⟨q, hq⟩ : ∃ q, q = decide (cs ∈ cases a S) := ⟨_, rfl⟩
  have HQE := Lib.hid hq
  have HG0 := Lib.hid (good_zero (cs := cs) h0)
  rw [hcl0] at HG0
  rw [← hq]
  rw [Nat.add_zero] at hc0
  have hcb : cb < w.heap.size := block_lt_of_cell hc0
  clear hx hcl0 h9 hq
  by_cases hx0 : x = 0
  rotate_left
  · have hxx : (x != 0) = true := by simpa using hx0
    have HN : Hid (q = false) := by
      show _ = _
      rw [HQE.out]
      exact (readL_bad (a := a) H9.out (k := 0) (by omega) (fun j hj => by omega) (by rw [HG0.out]; exact decide_eq_false hx0)).2
    clear hx0
    go_enter Try.func116, Try.ntmps116
    go_wp2_with fail
    go_ret
    exact ⟨ret_bool HN.out.symm, bel⟩
  have hxx : (x != 0) = false := by simp [hx0]
  have HN0 : Hid (goodAt S cs 0 = true) := by show _ = _; rw [HG0.out]; exact decide_eq_true hx0
  clear hx0 HG0
  go_enter Try.func116, Try.ntmps116
  have k0 : Blk (w.alloc (.cells #[.slice A1 a.facts.length c1, .slice A2 a.atoms.length c2] tAs)) w.heap.size tAs #[.slice A1 a.facts.length c1, .slice A2 a.atoms.length c2] := blks
  have hB : Below w.heap.size w (w.alloc (.cells #[.slice A1 a.facts.length c1, .slice A2 a.atoms.length c2] tAs)) := bel
  have hneF : w.heap.size ≠ fb := by omega
  have hneC : w.heap.size ≠ cb := by omega
  go_wp2_with fail
  clear hc0 hxx
  generalize (w.alloc (.cells #[.slice A1 a.facts.length c1, .slice A2 a.atoms.length c2] tAs)) = W at k0 hB ⊢
  go_loopw [7] (fun i wr => ∃ t : Nat, 1 ≤ t ∧ t ≤ 9 ∧ i = .int .i64 t ∧ wr = W ∧ Hid (∀ j : Nat, j < t → goodAt S cs j = true)) (fun i _ => 9 - (intOf i).toNat)
  case atStart => exact ⟨1, by omega, by omega, rfl, rfl, fun j hj => (by rw [show j = 0 from (by omega)]; exact HN0.out)⟩
  case round =>
    obtain ⟨t, ht1, ht9, rfl, rfl, HG⟩ := hrel
    by_cases ht : t < 9
    · have hti : (t : Int) ≤ 8 := by omega
      have hti9 : (t : Int) < 9 := by omega
      have htl : t < cs.length := by have := H9.out; omega
      have htli : (t : Int) < (cs.length : Int) := by omega
      obtain ⟨_, _, e, cx⟩ := (HC.out.below hB).at htl
      injection e with e; injection e with e1 e2; subst e1; subst e2
      have hclk : cl cs t = cs[t] := by unfold cl; rw [Int.toNat_natCast, List.getElem?_eq_getElem htl]; rfl
      obtain ⟨x, hx⟩ : ∃ x, x = cs[t] := ⟨_, rfl⟩
      rw [← hx] at cx hclk
      have HCK := Lib.hid hclk
      have qf := flags_at (HT.out.below hB) (m := t) (by omega)
      rw [HST.out t ht1 ht] at qf
      have HBAD : Hid (goodAt S cs t = false → q = false) := fun hb => by
        rw [HQE.out]; exact (readL_bad (a := a) H9.out ht HG.out hb).2
      have HGOOD : Hid (goodAt S cs t = true → ∀ j : Nat, j < t + 1 → goodAt S cs j = true) := fun hb j hj => by
        rcases Nat.lt_or_ge j t with h | h
        · exact HG.out j h
        · rw [show j = t from by omega]; exact hb
      clear hx hclk
      cases hb : S.testBit t
      · rw [hb] at qf
        by_cases hx0 : 0 ≤ x
        · have HN := Lib.hid (HBAD.out (by unfold goodAt; rw [hb, if_neg (by decide), HCK.out]; exact decide_eq_false (by omega)))
          have hd : decide (0 ≤ x) = true := decide_eq_true hx0
          clear hb
          go_wp2_with fail
          go_ret
          exact ⟨ret_bool HN.out.symm, hB⟩
        have hd : decide (0 ≤ x) = false := decide_eq_false hx0
        by_cases hx1 : x < -1
        · have HN := Lib.hid (HBAD.out (by unfold goodAt; rw [hb, if_neg (by decide), HCK.out]; exact decide_eq_false (by omega)))
          clear hb
          go_wp2_with fail
          go_ret
          exact ⟨ret_bool HN.out.symm, hB⟩
        obtain rfl : x = -1 := by omega
        have HN := Lib.hid (HGOOD.out (by unfold goodAt; rw [hb, if_neg (by decide), HCK.out]; exact decide_eq_true rfl))
        have hxt : ¬ ((t : Int) < -1) := by omega
        clear hb
        go_wp2_with fail
        go_round
        case rel => exact ⟨t + 1, by omega, by omega, by go_num, (by first | rfl | trivial), HN.out⟩
        case measure => simp [intOf]; omega
      · rw [hb] at qf
        by_cases hx0 : 0 ≤ x
        rotate_left
        · have HN := Lib.hid (HBAD.out (by unfold goodAt; rw [hb, if_pos rfl, HCK.out, decide_eq_false hx0]; rfl))
          have hd : decide (0 ≤ x) = false := decide_eq_false hx0
          clear hb
          go_wp2_with fail
          go_ret
          exact ⟨ret_bool HN.out.symm, hB⟩
        have hd : decide (0 ≤ x) = true := decide_eq_true hx0
        have hx1 : ¬ x < -1 := by omega
        by_cases hxt : (t : Int) < x
        · have HN := Lib.hid (HBAD.out (by unfold goodAt; rw [hb, if_pos rfl, HCK.out, decide_eq_false (by omega : ¬ x ≤ (t : Int))]; simp))
          clear hb
          go_wp2_with fail
          go_ret
          exact ⟨ret_bool HN.out.symm, hB⟩
        obtain ⟨xn, rfl⟩ := Int.eq_ofNat_of_zero_le hx0
        have hxl : xn < cs.length := by have := H9.out; omega
        have hxli : (xn : Int) < (cs.length : Int) := by omega
        obtain ⟨_, _, e, cy⟩ := (HC.out.below hB).at hxl
        injection e with e; injection e with e1 e2; subst e1; subst e2
        have hcly : cl cs xn = cs[xn] := by unfold cl; rw [Int.toNat_natCast, List.getElem?_eq_getElem hxl]; rfl
        obtain ⟨y, hy⟩ : ∃ y, y = cs[xn] := ⟨_, rfl⟩
        rw [← hy] at cy hcly
        have HCY := Lib.hid hcly
        clear hy hcly
        by_cases hxy : y = xn
        · have hyy : (y != (xn : Int)) = false := by simp [hxy]
          have HN := Lib.hid (HGOOD.out (by unfold goodAt; rw [hb, if_pos rfl, HCK.out, HCY.out, decide_eq_true hx0, decide_eq_true (by omega : (xn : Int) ≤ (t : Int)), decide_eq_true hxy]; rfl))
          clear hb hxy
          by_cases hxe : xn = t
          · subst hxe
            have e : y = xn := by rw [cx] at cy; injection cy with cy; injection cy with _ cy; exact cy.symm
            clear cy
            subst e
            go_wp2_with fail
            go_round
            case rel => exact ⟨xn + 1, by omega, by omega, by go_num, (by first | rfl | trivial), HN.out⟩
            case measure => simp [intOf]; omega
          · go_wp2_with fail
            go_round
            case rel => exact ⟨t + 1, by omega, by omega, by go_num, (by first | rfl | trivial), HN.out⟩
            case measure => simp [intOf]; omega
        · have hyy : (y != (xn : Int)) = true := by simpa using hxy
          have HN := Lib.hid (HBAD.out (by unfold goodAt; rw [hb, if_pos rfl, HCK.out, HCY.out, decide_eq_true hx0, decide_eq_true (by omega : (xn : Int) ≤ (t : Int)), decide_eq_false hxy]; rfl))
          have hxe : xn ≠ t := fun e => by
            subst e
            rw [cx] at cy; injection cy with cy; injection cy with _ cy; exact hxy cy.symm
          clear hb hxy
          go_wp2_with fail
          go_ret
          exact ⟨ret_bool HN.out.symm, hB⟩
    · obtain rfl : t = 9 := by omega
      have HQF : Hid (q = full a cs) := by show _ = _; rw [HQE.out]; exact (readL_ok (a := a) H9.out HG.out).2
      have HFF : Hid (fitsS cs a.facts = a.facts.all (Fct.fits cs)) := by
        refine fitsS_full fun f hf => ?_
        have ht := termsL_facts hf
        have hok := HOK.out.1 f hf
        constructor
        · have := ((good_iff (HG.out f.a.toNat (by omega))).1 (HS.out _ ht.1)).1.1
          rwa [show ((f.a.toNat : Nat) : Int) = f.a from Int.toNat_of_nonneg hok.1.1] at this
        · have := ((good_iff (HG.out f.b.toNat (by omega))).1 (HS.out _ ht.2)).1.1
          rwa [show ((f.b.toNat : Nat) : Int) = f.b from Int.toNat_of_nonneg hok.2.1] at this
      rw [H9.out]
      (replace qk0 := k0.cell; replace rk0 := k0.frozen; replace lk0 := k0.lt)
      go_wp2_with fail
      refine (c_fits9 _ _ _ _ a.facts cs _ (H1.out.below hB) (HC.out.below hB) H9.out HOK.out.1).mono ?_
      rintro e w3 ⟨rfl, rfl⟩
      rw [HFF.out]
      cases hf : a.facts.all (Fct.fits cs)
      · have HN : Hid (q = false) := by show _ = _; rw [HQF.out]; unfold full; rw [hf]; rfl
        clear hf
        go_wp2_with fail
        go_ret
        exact ⟨ret_bool HN.out.symm, hB⟩
      · have HN : Hid (q = apartF [] (filledL a.atoms cs)) := by show _ = _; rw [HQF.out]; unfold full; rw [hf]; rfl
        clear hf
        go_wp2_with fail
        refine (c_filled9 _ _ _ _ a.atoms cs _ (H2.out.below hB) (HC.out.below hB) H9.out HOK.out.2).mono ?_
        rintro e w4 ⟨r4, rfl, o4, hB4⟩
        obtain ⟨A4, c4, rfl, f4⟩ := o4.reads
        go_wp2_with fail
        refine (c_spec_l5Apart A4 c4 _ _ f4).mono ?_
        rintro e w5 ⟨rfl, hB5⟩
        go_wp2_with fail
        go_ret
        exact ⟨ret_bool HN.out.symm, bgo hB (bgo hB4 hB5)⟩
--@ spec.EntailsCase
theorem seek_bits {a b : Asn} (j : Nat) (h1 : 1 ≤ j) : (tset (termsL (starA a b))).testBit j = (caseS a (tset (termsL b))).testBit j := by
  rw [caseS_bit, tset_bit, tset_bit]
  have hj : ¬ j = 0 := by omega
  rw [decide_eq_false hj, Bool.or_false, ← Bool.decide_or, decide_eq_decide, termsL_star]
  constructor
  · rintro ⟨g, h | h⟩
    · exact Or.inl ⟨g, h⟩
    · exact Or.inr ⟨g, h⟩
  · rintro (⟨g, h⟩ | ⟨g, h⟩)
    · exact ⟨g, Or.inl h⟩
    · exact ⟨g, Or.inr h⟩
theorem entC_eq {a b : Asn} {cs : List Int} (ha : a.valid = true) (hb : b.valid = true) {q : Bool} (hq : q = decide (cs ∈ cases a (caseS a (tset (termsL b))))) : entC a b cs = (q && entB a b cs) := by
  unfold entC; rw [ha, hb, hq]; rfl
set_option maxRecDepth 100000 in
set_option maxHeartbeats 6400000 in
theorem c_spec_EntailsAny {lo hi lo' hi' lo2 hi2 : Nat} (v v' : Value) (a b : Asn) (cs : List Int) (A : Option Addr) (c : Nat) (w : World) (h : AsnV w lo hi v a) (h' : AsnV w lo' hi' v' b) (hA : IntsV w lo2 hi2 A cs) :
    Calls Try.prog 33 #[v, v', .slice A cs.length c] w fun e w' => e = .returned (.bool (entC a b cs)) ∧ Below w.heap.size w w' := by
  have hV := Lib.hid h
  have hV' := Lib.hid h'
  have HX := Lib.hid hA
  obtain ⟨A1, c1, A2, c2, rfl, -, -⟩ := h
  obtain ⟨A3, c3, A4, c4, rfl, -, -⟩ := h'
  clear hA
  go_enter Try.func33, Try.ntmps33
  have k0 : Blk ((w.alloc (.cells #[.slice A1 a.facts.length c1, .slice A2 a.atoms.length c2] tAs)).alloc (.cells #[.slice A3 b.facts.length c3, .slice A4 b.atoms.length c4] tAs)) w.heap.size tAs #[.slice A1 a.facts.length c1, .slice A2 a.atoms.length c2] := blks
  have k1 : Blk ((w.alloc (.cells #[.slice A1 a.facts.length c1, .slice A2 a.atoms.length c2] tAs)).alloc (.cells #[.slice A3 b.facts.length c3, .slice A4 b.atoms.length c4] tAs)) (w.heap.size + 1) tAs #[.slice A3 b.facts.length c3, .slice A4 b.atoms.length c4] := blks
  have hB0 : Below w.heap.size w ((w.alloc (.cells #[.slice A1 a.facts.length c1, .slice A2 a.atoms.length c2] tAs)).alloc (.cells #[.slice A3 b.facts.length c3, .slice A4 b.atoms.length c4] tAs)) := bel
  go_wp2_with fail
  generalize ((w.alloc (.cells #[.slice A1 a.facts.length c1, .slice A2 a.atoms.length c2] tAs)).alloc (.cells #[.slice A3 b.facts.length c3, .slice A4 b.atoms.length c4] tAs)) = W at k0 k1 hB0 ⊢
  refine wp_region_noPanic ?_
  refine wp_region_held_drew (S := (fun w' => (∀ i, w'.cell? ⟨w.heap.size, i, none⟩ = #[.slice A1 a.facts.length c1, .slice A2 a.atoms.length c2][i]?) ∧ (∀ i, w'.cell? ⟨w.heap.size + 1, i, none⟩ = #[.slice A3 b.facts.length c3, .slice A4 b.atoms.length c4][i]?))) (by kernel_rfl) (⟨k0.drew.cell, k1.drew.cell⟩) (fun hHeld => ?_)
  refine wpAnyH_take (i := 0) (v := ?_) rfl (by kernel_rfl) (by kernel_rfl) (by kernel_rfl) (fun _ _ _ h => h) (Or.inl ⟨by rfl, fun w hSw => ?_⟩) hHeld ?_
  rotate_left
  · ((try dsimp only at hSw); go_split_ands; go_simp; (try with_reducible rfl))
  try simp only [Act.put, List.getElem_toArray, List.getElem_cons_zero, List.getElem_cons_succ, List.setIfInBounds_toArray, List.set_cons_zero, List.set_cons_succ]
  refine wpAnyH_ready (rs := [1]) (by kernel_rfl) (by simp) ?_
  refine AllReadyH.cons rfl (fun K hK => ?_) AllReadyH.nil
  try simp only [List.getElem_toArray, List.getElem_cons_zero, List.getElem_cons_succ]
  (go_simp; refine (c_spec_AssertionValid _ a _ (hV.out.below hB0.drew)).mono ?_; rintro e w1 ⟨rfl, hB1⟩; replace hB0 := bgo hB0.drew hB1; replace k0 := k0.drew.next hB1; replace k1 := k1.drew.next hB1; clear hB1)
  refine hK.out _ _ (⟨k0.cell, k1.cell⟩) (fun hHeldN => ?_)
  clear hHeld hK K
  have hHeld := hHeldN
  clear hHeldN
  try simp only [Act.put, List.getElem_toArray, List.getElem_cons_zero, List.getElem_cons_succ, List.setIfInBounds_toArray, List.set_cons_zero, List.set_cons_succ]
  cases ha : a.valid
  · have HE : Hid (entC a b cs = false) := by show _ = _; unfold entC; rw [ha]; rfl
    clear ha
    refine wpAnyH_take (i := 2) (v := ?_) rfl (by kernel_rfl) (by kernel_rfl) (by kernel_rfl) (fun _ _ _ h => h) (Or.inl ⟨by rfl, fun w hSw => ?_⟩) hHeld ?_
    rotate_left
    · ((try dsimp only at hSw); go_split_ands; go_simp; (try with_reducible rfl))
    try simp only [Act.put, List.getElem_toArray, List.getElem_cons_zero, List.getElem_cons_succ, List.setIfInBounds_toArray, List.set_cons_zero, List.set_cons_succ]
    refine wpAnyH_take (i := 3) (v := undef) rfl (by kernel_rfl) (by kernel_rfl) (by kernel_rfl) (fun _ _ _ h => h) (Or.inr ⟨by rfl, rfl⟩) hHeld ?_
    try simp only [Act.put, List.getElem_toArray, List.getElem_cons_zero, List.getElem_cons_succ, List.setIfInBounds_toArray, List.set_cons_zero, List.set_cons_succ]
    refine wpAnyH_take (i := 4) (v := undef) rfl (by kernel_rfl) (by kernel_rfl) (by kernel_rfl) (fun _ _ _ h => h) (Or.inr ⟨by rfl, rfl⟩) hHeld ?_
    try simp only [Act.put, List.getElem_toArray, List.getElem_cons_zero, List.getElem_cons_succ, List.setIfInBounds_toArray, List.set_cons_zero, List.set_cons_succ]
    refine wpAnyH_take (i := 5) (v := ?_) rfl (by kernel_rfl) (by kernel_rfl) (by kernel_rfl) (fun _ _ _ h => h) (Or.inl ⟨by rfl, fun w hSw => ?_⟩) hHeld ?_
    rotate_left
    · ((try dsimp only at hSw); go_split_ands; go_simp; (try with_reducible rfl))
    try simp only [Act.put, List.getElem_toArray, List.getElem_cons_zero, List.getElem_cons_succ, List.setIfInBounds_toArray, List.set_cons_zero, List.set_cons_succ]
    refine wpAnyH_take (i := 6) (v := ?_) rfl (by kernel_rfl) (by kernel_rfl) (by kernel_rfl) (fun _ _ _ h => h) (Or.inl ⟨by rfl, fun w hSw => ?_⟩) hHeld ?_
    rotate_left
    · ((try dsimp only at hSw); go_split_ands; go_simp; (try with_reducible rfl))
    try simp only [Act.put, List.getElem_toArray, List.getElem_cons_zero, List.getElem_cons_succ, List.setIfInBounds_toArray, List.set_cons_zero, List.set_cons_succ]
    refine wpAnyH_take (i := 7) (v := undef) rfl (by kernel_rfl) (by kernel_rfl) (by kernel_rfl) (fun _ _ _ h => h) (Or.inr ⟨by rfl, rfl⟩) hHeld ?_
    try simp only [Act.put, List.getElem_toArray, List.getElem_cons_zero, List.getElem_cons_succ, List.setIfInBounds_toArray, List.set_cons_zero, List.set_cons_succ]
    refine wpAnyH_take (i := 8) (v := undef) rfl (by kernel_rfl) (by kernel_rfl) (by kernel_rfl) (fun _ _ _ h => h) (Or.inr ⟨by rfl, rfl⟩) hHeld ?_
    try simp only [Act.put, List.getElem_toArray, List.getElem_cons_zero, List.getElem_cons_succ, List.setIfInBounds_toArray, List.set_cons_zero, List.set_cons_succ]
    refine wpAnyH_take (i := 9) (v := undef) rfl (by kernel_rfl) (by kernel_rfl) (by kernel_rfl) (fun _ _ _ h => h) (Or.inr ⟨by rfl, rfl⟩) hHeld ?_
    try simp only [Act.put, List.getElem_toArray, List.getElem_cons_zero, List.getElem_cons_succ, List.setIfInBounds_toArray, List.set_cons_zero, List.set_cons_succ]
    refine wpAnyH_take (i := 10) (v := undef) rfl (by kernel_rfl) (by kernel_rfl) (by kernel_rfl) (fun _ _ _ h => h) (Or.inr ⟨by rfl, rfl⟩) hHeld ?_
    try simp only [Act.put, List.getElem_toArray, List.getElem_cons_zero, List.getElem_cons_succ, List.setIfInBounds_toArray, List.set_cons_zero, List.set_cons_succ]
    refine wpAnyH_take (i := 11) (v := undef) rfl (by kernel_rfl) (by kernel_rfl) (by kernel_rfl) (fun _ _ _ h => h) (Or.inr ⟨by rfl, rfl⟩) hHeld ?_
    try simp only [Act.put, List.getElem_toArray, List.getElem_cons_zero, List.getElem_cons_succ, List.setIfInBounds_toArray, List.set_cons_zero, List.set_cons_succ]
    refine wpAnyH_take (i := 12) (v := undef) rfl (by kernel_rfl) (by kernel_rfl) (by kernel_rfl) (fun _ _ _ h => h) (Or.inr ⟨by rfl, rfl⟩) hHeld ?_
    try simp only [Act.put, List.getElem_toArray, List.getElem_cons_zero, List.getElem_cons_succ, List.setIfInBounds_toArray, List.set_cons_zero, List.set_cons_succ]
    refine wpAnyH_take (i := 13) (v := ?_) rfl (by kernel_rfl) (by kernel_rfl) (by kernel_rfl) (fun _ _ _ h => h) (Or.inl ⟨by rfl, fun w hSw => ?_⟩) hHeld ?_
    rotate_left
    · ((try dsimp only at hSw); go_split_ands; go_simp; (try with_reducible rfl))
    try simp only [Act.put, List.getElem_toArray, List.getElem_cons_zero, List.getElem_cons_succ, List.setIfInBounds_toArray, List.set_cons_zero, List.set_cons_succ]
    refine wpAnyH_take (i := 14) (v := ?_) rfl (by kernel_rfl) (by kernel_rfl) (by kernel_rfl) (fun _ _ _ h => h) (Or.inl ⟨by rfl, fun w hSw => ?_⟩) hHeld ?_
    rotate_left
    · ((try dsimp only at hSw); go_split_ands; go_simp; (try with_reducible rfl))
    try simp only [Act.put, List.getElem_toArray, List.getElem_cons_zero, List.getElem_cons_succ, List.setIfInBounds_toArray, List.set_cons_zero, List.set_cons_succ]
    refine wpAnyH_take (i := 15) (v := undef) rfl (by kernel_rfl) (by kernel_rfl) (by kernel_rfl) (fun _ _ _ h => h) (Or.inr ⟨by rfl, rfl⟩) hHeld ?_
    try simp only [Act.put, List.getElem_toArray, List.getElem_cons_zero, List.getElem_cons_succ, List.setIfInBounds_toArray, List.set_cons_zero, List.set_cons_succ]
    refine wpAnyH_take (i := 16) (v := undef) rfl (by kernel_rfl) (by kernel_rfl) (by kernel_rfl) (fun _ _ _ h => h) (Or.inr ⟨by rfl, rfl⟩) hHeld ?_
    try simp only [Act.put, List.getElem_toArray, List.getElem_cons_zero, List.getElem_cons_succ, List.setIfInBounds_toArray, List.set_cons_zero, List.set_cons_succ]
    refine wpAnyH_take (i := 17) (v := undef) rfl (by kernel_rfl) (by kernel_rfl) (by kernel_rfl) (fun _ _ _ h => h) (Or.inr ⟨by rfl, rfl⟩) hHeld ?_
    try simp only [Act.put, List.getElem_toArray, List.getElem_cons_zero, List.getElem_cons_succ, List.setIfInBounds_toArray, List.set_cons_zero, List.set_cons_succ]
    refine wpAnyH_take (i := 18) (v := undef) rfl (by kernel_rfl) (by kernel_rfl) (by kernel_rfl) (fun _ _ _ h => h) (Or.inr ⟨by rfl, rfl⟩) hHeld ?_
    try simp only [Act.put, List.getElem_toArray, List.getElem_cons_zero, List.getElem_cons_succ, List.setIfInBounds_toArray, List.set_cons_zero, List.set_cons_succ]
    refine wpAnyH_take (i := 19) (v := ?_) rfl (by kernel_rfl) (by kernel_rfl) (by kernel_rfl) (fun _ _ _ h => h) (Or.inl ⟨by rfl, fun w hSw => ?_⟩) hHeld ?_
    rotate_left
    · ((try dsimp only at hSw); go_split_ands; go_simp; (try with_reducible rfl))
    try simp only [Act.put, List.getElem_toArray, List.getElem_cons_zero, List.getElem_cons_succ, List.setIfInBounds_toArray, List.set_cons_zero, List.set_cons_succ]
    refine wpAnyH_take (i := 20) (v := ?_) rfl (by kernel_rfl) (by kernel_rfl) (by kernel_rfl) (fun _ _ _ h => h) (Or.inl ⟨by rfl, fun w hSw => ?_⟩) hHeld ?_
    rotate_left
    · ((try dsimp only at hSw); go_split_ands; go_simp; (try with_reducible rfl))
    try simp only [Act.put, List.getElem_toArray, List.getElem_cons_zero, List.getElem_cons_succ, List.setIfInBounds_toArray, List.set_cons_zero, List.set_cons_succ]
    refine wpAnyH_done (by kernel_rfl) ?_ _
    refine NoPanic.normal ?_
    go_wp2_with fail
    go_ret
    exact ⟨ret_bool HE.out.symm, hB0⟩
  have HA := Lib.hid ha
  have HLA := Lib.hid (valid_len ha)
  clear ha
  refine wpAnyH_take (i := 2) (v := ?_) rfl (by kernel_rfl) (by kernel_rfl) (by kernel_rfl) (fun _ _ _ h => h) (Or.inl ⟨by rfl, fun w hSw => ?_⟩) hHeld ?_
  rotate_left
  · ((try dsimp only at hSw); go_split_ands; go_simp; (try with_reducible rfl))
  try simp only [Act.put, List.getElem_toArray, List.getElem_cons_zero, List.getElem_cons_succ, List.setIfInBounds_toArray, List.set_cons_zero, List.set_cons_succ]
  refine wpAnyH_take (i := 3) (v := ?_) rfl (by kernel_rfl) (by kernel_rfl) (by kernel_rfl) (fun _ _ _ h => h) (Or.inl ⟨by rfl, fun w hSw => ?_⟩) hHeld ?_
  rotate_left
  · ((try dsimp only at hSw); go_split_ands; go_simp; (try with_reducible rfl))
  try simp only [Act.put, List.getElem_toArray, List.getElem_cons_zero, List.getElem_cons_succ, List.setIfInBounds_toArray, List.set_cons_zero, List.set_cons_succ]
  refine wpAnyH_ready (rs := [4]) (by kernel_rfl) (by simp) ?_
  refine AllReadyH.cons rfl (fun K hK => ?_) AllReadyH.nil
  try simp only [List.getElem_toArray, List.getElem_cons_zero, List.getElem_cons_succ]
  (go_simp; refine (c_spec_AssertionValid _ b _ (hV'.out.below hB0)).mono ?_; rintro e w2 ⟨rfl, hB1⟩; replace hB0 := bgo hB0 hB1; replace k0 := k0.next hB1; replace k1 := k1.next hB1; clear hB1)
  refine hK.out _ _ (⟨k0.cell, k1.cell⟩) (fun hHeldN => ?_)
  clear hHeld hK K
  have hHeld := hHeldN
  clear hHeldN
  try simp only [Act.put, List.getElem_toArray, List.getElem_cons_zero, List.getElem_cons_succ, List.setIfInBounds_toArray, List.set_cons_zero, List.set_cons_succ]
  cases hb : b.valid
  · have HE : Hid (entC a b cs = false) := by show _ = _; unfold entC; rw [hb]; simp
    clear hb
    refine wpAnyH_take (i := 5) (v := ?_) rfl (by kernel_rfl) (by kernel_rfl) (by kernel_rfl) (fun _ _ _ h => h) (Or.inl ⟨by rfl, fun w hSw => ?_⟩) hHeld ?_
    rotate_left
    · ((try dsimp only at hSw); go_split_ands; go_simp; (try with_reducible rfl))
    try simp only [Act.put, List.getElem_toArray, List.getElem_cons_zero, List.getElem_cons_succ, List.setIfInBounds_toArray, List.set_cons_zero, List.set_cons_succ]
    refine wpAnyH_take (i := 6) (v := ?_) rfl (by kernel_rfl) (by kernel_rfl) (by kernel_rfl) (fun _ _ _ h => h) (Or.inl ⟨by rfl, fun w hSw => ?_⟩) hHeld ?_
    rotate_left
    · ((try dsimp only at hSw); go_split_ands; go_simp; (try with_reducible rfl))
    try simp only [Act.put, List.getElem_toArray, List.getElem_cons_zero, List.getElem_cons_succ, List.setIfInBounds_toArray, List.set_cons_zero, List.set_cons_succ]
    refine wpAnyH_take (i := 7) (v := undef) rfl (by kernel_rfl) (by kernel_rfl) (by kernel_rfl) (fun _ _ _ h => h) (Or.inr ⟨by rfl, rfl⟩) hHeld ?_
    try simp only [Act.put, List.getElem_toArray, List.getElem_cons_zero, List.getElem_cons_succ, List.setIfInBounds_toArray, List.set_cons_zero, List.set_cons_succ]
    refine wpAnyH_take (i := 8) (v := undef) rfl (by kernel_rfl) (by kernel_rfl) (by kernel_rfl) (fun _ _ _ h => h) (Or.inr ⟨by rfl, rfl⟩) hHeld ?_
    try simp only [Act.put, List.getElem_toArray, List.getElem_cons_zero, List.getElem_cons_succ, List.setIfInBounds_toArray, List.set_cons_zero, List.set_cons_succ]
    refine wpAnyH_take (i := 9) (v := undef) rfl (by kernel_rfl) (by kernel_rfl) (by kernel_rfl) (fun _ _ _ h => h) (Or.inr ⟨by rfl, rfl⟩) hHeld ?_
    try simp only [Act.put, List.getElem_toArray, List.getElem_cons_zero, List.getElem_cons_succ, List.setIfInBounds_toArray, List.set_cons_zero, List.set_cons_succ]
    refine wpAnyH_take (i := 10) (v := undef) rfl (by kernel_rfl) (by kernel_rfl) (by kernel_rfl) (fun _ _ _ h => h) (Or.inr ⟨by rfl, rfl⟩) hHeld ?_
    try simp only [Act.put, List.getElem_toArray, List.getElem_cons_zero, List.getElem_cons_succ, List.setIfInBounds_toArray, List.set_cons_zero, List.set_cons_succ]
    refine wpAnyH_take (i := 11) (v := undef) rfl (by kernel_rfl) (by kernel_rfl) (by kernel_rfl) (fun _ _ _ h => h) (Or.inr ⟨by rfl, rfl⟩) hHeld ?_
    try simp only [Act.put, List.getElem_toArray, List.getElem_cons_zero, List.getElem_cons_succ, List.setIfInBounds_toArray, List.set_cons_zero, List.set_cons_succ]
    refine wpAnyH_take (i := 12) (v := undef) rfl (by kernel_rfl) (by kernel_rfl) (by kernel_rfl) (fun _ _ _ h => h) (Or.inr ⟨by rfl, rfl⟩) hHeld ?_
    try simp only [Act.put, List.getElem_toArray, List.getElem_cons_zero, List.getElem_cons_succ, List.setIfInBounds_toArray, List.set_cons_zero, List.set_cons_succ]
    refine wpAnyH_take (i := 13) (v := ?_) rfl (by kernel_rfl) (by kernel_rfl) (by kernel_rfl) (fun _ _ _ h => h) (Or.inl ⟨by rfl, fun w hSw => ?_⟩) hHeld ?_
    rotate_left
    · ((try dsimp only at hSw); go_split_ands; go_simp; (try with_reducible rfl))
    try simp only [Act.put, List.getElem_toArray, List.getElem_cons_zero, List.getElem_cons_succ, List.setIfInBounds_toArray, List.set_cons_zero, List.set_cons_succ]
    refine wpAnyH_take (i := 14) (v := ?_) rfl (by kernel_rfl) (by kernel_rfl) (by kernel_rfl) (fun _ _ _ h => h) (Or.inl ⟨by rfl, fun w hSw => ?_⟩) hHeld ?_
    rotate_left
    · ((try dsimp only at hSw); go_split_ands; go_simp; (try with_reducible rfl))
    try simp only [Act.put, List.getElem_toArray, List.getElem_cons_zero, List.getElem_cons_succ, List.setIfInBounds_toArray, List.set_cons_zero, List.set_cons_succ]
    refine wpAnyH_take (i := 15) (v := undef) rfl (by kernel_rfl) (by kernel_rfl) (by kernel_rfl) (fun _ _ _ h => h) (Or.inr ⟨by rfl, rfl⟩) hHeld ?_
    try simp only [Act.put, List.getElem_toArray, List.getElem_cons_zero, List.getElem_cons_succ, List.setIfInBounds_toArray, List.set_cons_zero, List.set_cons_succ]
    refine wpAnyH_take (i := 16) (v := undef) rfl (by kernel_rfl) (by kernel_rfl) (by kernel_rfl) (fun _ _ _ h => h) (Or.inr ⟨by rfl, rfl⟩) hHeld ?_
    try simp only [Act.put, List.getElem_toArray, List.getElem_cons_zero, List.getElem_cons_succ, List.setIfInBounds_toArray, List.set_cons_zero, List.set_cons_succ]
    refine wpAnyH_take (i := 17) (v := undef) rfl (by kernel_rfl) (by kernel_rfl) (by kernel_rfl) (fun _ _ _ h => h) (Or.inr ⟨by rfl, rfl⟩) hHeld ?_
    try simp only [Act.put, List.getElem_toArray, List.getElem_cons_zero, List.getElem_cons_succ, List.setIfInBounds_toArray, List.set_cons_zero, List.set_cons_succ]
    refine wpAnyH_take (i := 18) (v := undef) rfl (by kernel_rfl) (by kernel_rfl) (by kernel_rfl) (fun _ _ _ h => h) (Or.inr ⟨by rfl, rfl⟩) hHeld ?_
    try simp only [Act.put, List.getElem_toArray, List.getElem_cons_zero, List.getElem_cons_succ, List.setIfInBounds_toArray, List.set_cons_zero, List.set_cons_succ]
    refine wpAnyH_take (i := 19) (v := ?_) rfl (by kernel_rfl) (by kernel_rfl) (by kernel_rfl) (fun _ _ _ h => h) (Or.inl ⟨by rfl, fun w hSw => ?_⟩) hHeld ?_
    rotate_left
    · ((try dsimp only at hSw); go_split_ands; go_simp; (try with_reducible rfl))
    try simp only [Act.put, List.getElem_toArray, List.getElem_cons_zero, List.getElem_cons_succ, List.setIfInBounds_toArray, List.set_cons_zero, List.set_cons_succ]
    refine wpAnyH_take (i := 20) (v := ?_) rfl (by kernel_rfl) (by kernel_rfl) (by kernel_rfl) (fun _ _ _ h => h) (Or.inl ⟨by rfl, fun w hSw => ?_⟩) hHeld ?_
    rotate_left
    · ((try dsimp only at hSw); go_split_ands; go_simp; (try with_reducible rfl))
    try simp only [Act.put, List.getElem_toArray, List.getElem_cons_zero, List.getElem_cons_succ, List.setIfInBounds_toArray, List.set_cons_zero, List.set_cons_succ]
    refine wpAnyH_done (by kernel_rfl) ?_ _
    refine NoPanic.normal ?_
    go_wp2_with fail
    go_ret
    exact ⟨ret_bool HE.out.symm, hB0⟩
  have HB := Lib.hid hb
  have HLB := Lib.hid (valid_len hb)
  have HTT := Lib.hid (termsL_star_ok HA.out hb)
  clear hb
  refine wpAnyH_take (i := 5) (v := ?_) rfl (by kernel_rfl) (by kernel_rfl) (by kernel_rfl) (fun _ _ _ h => h) (Or.inl ⟨by rfl, fun w hSw => ?_⟩) hHeld ?_
  rotate_left
  · ((try dsimp only at hSw); go_split_ands; go_simp; (try with_reducible rfl))
  try simp only [Act.put, List.getElem_toArray, List.getElem_cons_zero, List.getElem_cons_succ, List.setIfInBounds_toArray, List.set_cons_zero, List.set_cons_succ]
  refine wpAnyH_take (i := 6) (v := ?_) rfl (by kernel_rfl) (by kernel_rfl) (by kernel_rfl) (fun _ _ _ h => h) (Or.inl ⟨by rfl, fun w hSw => ?_⟩) hHeld ?_
  rotate_left
  · ((try dsimp only at hSw); go_split_ands; go_simp; (try with_reducible rfl))
  try simp only [Act.put, List.getElem_toArray, List.getElem_cons_zero, List.getElem_cons_succ, List.setIfInBounds_toArray, List.set_cons_zero, List.set_cons_succ]
  refine wpAnyH_take (i := 7) (v := ?_) rfl (by kernel_rfl) (by kernel_rfl) (by kernel_rfl) (fun _ _ _ h => h) (Or.inl ⟨by rfl, fun w hSw => ?_⟩) hHeld ?_
  rotate_left
  · ((try dsimp only at hSw); go_split_ands; go_simp; (try with_reducible rfl))
  try simp only [Act.put, List.getElem_toArray, List.getElem_cons_zero, List.getElem_cons_succ, List.setIfInBounds_toArray, List.set_cons_zero, List.set_cons_succ]
  refine wpAnyH_take (i := 8) (v := ?_) rfl (by kernel_rfl) (by kernel_rfl) (by kernel_rfl) (fun _ _ _ h => h) (Or.inl ⟨by rfl, fun w hSw => ?_⟩) hHeld ?_
  rotate_left
  · ((try dsimp only at hSw); go_split_ands; go_simp; (try with_reducible rfl))
  try simp only [Act.put, List.getElem_toArray, List.getElem_cons_zero, List.getElem_cons_succ, List.setIfInBounds_toArray, List.set_cons_zero, List.set_cons_succ]
  refine wpAnyH_take (i := 9) (v := ?_) rfl (by kernel_rfl) (by kernel_rfl) (by kernel_rfl) (fun _ _ _ h => h) (Or.inl ⟨by rfl, fun w hSw => ?_⟩) hHeld ?_
  rotate_left
  · ((try dsimp only at hSw); go_split_ands; go_simp; (try with_reducible rfl))
  try simp only [Act.put, List.getElem_toArray, List.getElem_cons_zero, List.getElem_cons_succ, List.setIfInBounds_toArray, List.set_cons_zero, List.set_cons_succ]
  refine wpAnyH_take (i := 11) (v := ?_) rfl (by kernel_rfl) (by kernel_rfl) (by kernel_rfl) (fun _ _ _ h => h) (Or.inl ⟨by rfl, fun w hSw => ?_⟩) hHeld ?_
  rotate_left
  · ((try dsimp only at hSw); go_split_ands; go_simp; (try with_reducible rfl))
  try simp only [Act.put, List.getElem_toArray, List.getElem_cons_zero, List.getElem_cons_succ, List.setIfInBounds_toArray, List.set_cons_zero, List.set_cons_succ]
  refine wpAnyH_ready (rs := [10]) (by kernel_rfl) (by simp) ?_
  refine AllReadyH.cons rfl (fun K hK => ?_) AllReadyH.nil
  try simp only [List.getElem_toArray, List.getElem_cons_zero, List.getElem_cons_succ]
  (go_simp; refine (c_spec_l6Both _ _ a b _ (hV.out.below hB0) (hV'.out.below hB0) (by have h1 := HLA.out; have h2 := HLB.out; omega) (by have h1 := HLA.out; have h2 := HLB.out; omega) HTT.out).mono ?_; rintro e w3 ⟨r3, rfl, o3, hB3⟩; obtain ⟨Tb, ct, rfl, fT⟩ := o3.reads; rw [flagsOf_length]; have hB3' := bgo hB0 hB3; replace k0 := k0.next hB3; replace k1 := k1.next hB3; have FT := Lib.hid fT; clear o3 fT hB3 hB0)
  refine hK.out _ _ (⟨k0.cell, k1.cell⟩) (fun hHeldN => ?_)
  clear hHeld hK K
  have hHeld := hHeldN
  clear hHeldN
  try simp only [Act.put, List.getElem_toArray, List.getElem_cons_zero, List.getElem_cons_succ, List.setIfInBounds_toArray, List.set_cons_zero, List.set_cons_succ]
  obtain ⟨q, hq⟩ : ∃ q, q = decide (cs ∈ cases a (caseS a (tset (termsL b)))) := ⟨_, rfl⟩
  have HQ := Lib.hid hq
  have HE : Hid (entC a b cs = (q && entB a b cs)) := entC_eq HA.out HB.out hq
  clear hq
  refine wpAnyH_ready (rs := [12]) (by kernel_rfl) (by simp) ?_
  refine AllReadyH.cons rfl (fun K hK => ?_) AllReadyH.nil
  try simp only [List.getElem_toArray, List.getElem_cons_zero, List.getElem_cons_succ]
  (go_simp; refine (c_spec_l6IsCase _ a _ (caseS a (tset (termsL b))) cs Tb A ct c _ (hV.out.below hB3') FT.out (HX.out.below hB3') HA.out (caseS_zero a _) (caseS_terms HA.out _) (fun j h1 _ => seek_bits j h1)).mono ?_; rintro e w4 ⟨rfl, hB4⟩; rw [← HQ.out]; replace hB3' := bgo hB3' hB4; replace k0 := k0.next hB4; replace k1 := k1.next hB4; clear hB4)
  refine hK.out _ _ (⟨k0.cell, k1.cell⟩) (fun hHeldN => ?_)
  clear hHeld hK K
  have hHeld := hHeldN
  clear hHeldN
  try simp only [Act.put, List.getElem_toArray, List.getElem_cons_zero, List.getElem_cons_succ, List.setIfInBounds_toArray, List.set_cons_zero, List.set_cons_succ]
  cases hq : q
  · have HF : Hid (entC a b cs = false) := by show _ = _; rw [HE.out, hq]; rfl
    clear hq HE
    refine wpAnyH_take (i := 13) (v := ?_) rfl (by kernel_rfl) (by kernel_rfl) (by kernel_rfl) (fun _ _ _ h => h) (Or.inl ⟨by rfl, fun w hSw => ?_⟩) hHeld ?_
    rotate_left
    · ((try dsimp only at hSw); go_split_ands; go_simp; (try with_reducible rfl))
    try simp only [Act.put, List.getElem_toArray, List.getElem_cons_zero, List.getElem_cons_succ, List.setIfInBounds_toArray, List.set_cons_zero, List.set_cons_succ]
    refine wpAnyH_take (i := 14) (v := ?_) rfl (by kernel_rfl) (by kernel_rfl) (by kernel_rfl) (fun _ _ _ h => h) (Or.inl ⟨by rfl, fun w hSw => ?_⟩) hHeld ?_
    rotate_left
    · ((try dsimp only at hSw); go_split_ands; go_simp; (try with_reducible rfl))
    try simp only [Act.put, List.getElem_toArray, List.getElem_cons_zero, List.getElem_cons_succ, List.setIfInBounds_toArray, List.set_cons_zero, List.set_cons_succ]
    refine wpAnyH_take (i := 15) (v := undef) rfl (by kernel_rfl) (by kernel_rfl) (by kernel_rfl) (fun _ _ _ h => h) (Or.inr ⟨by rfl, rfl⟩) hHeld ?_
    try simp only [Act.put, List.getElem_toArray, List.getElem_cons_zero, List.getElem_cons_succ, List.setIfInBounds_toArray, List.set_cons_zero, List.set_cons_succ]
    refine wpAnyH_take (i := 16) (v := undef) rfl (by kernel_rfl) (by kernel_rfl) (by kernel_rfl) (fun _ _ _ h => h) (Or.inr ⟨by rfl, rfl⟩) hHeld ?_
    try simp only [Act.put, List.getElem_toArray, List.getElem_cons_zero, List.getElem_cons_succ, List.setIfInBounds_toArray, List.set_cons_zero, List.set_cons_succ]
    refine wpAnyH_take (i := 17) (v := undef) rfl (by kernel_rfl) (by kernel_rfl) (by kernel_rfl) (fun _ _ _ h => h) (Or.inr ⟨by rfl, rfl⟩) hHeld ?_
    try simp only [Act.put, List.getElem_toArray, List.getElem_cons_zero, List.getElem_cons_succ, List.setIfInBounds_toArray, List.set_cons_zero, List.set_cons_succ]
    refine wpAnyH_take (i := 18) (v := undef) rfl (by kernel_rfl) (by kernel_rfl) (by kernel_rfl) (fun _ _ _ h => h) (Or.inr ⟨by rfl, rfl⟩) hHeld ?_
    try simp only [Act.put, List.getElem_toArray, List.getElem_cons_zero, List.getElem_cons_succ, List.setIfInBounds_toArray, List.set_cons_zero, List.set_cons_succ]
    refine wpAnyH_take (i := 19) (v := ?_) rfl (by kernel_rfl) (by kernel_rfl) (by kernel_rfl) (fun _ _ _ h => h) (Or.inl ⟨by rfl, fun w hSw => ?_⟩) hHeld ?_
    rotate_left
    · ((try dsimp only at hSw); go_split_ands; go_simp; (try with_reducible rfl))
    try simp only [Act.put, List.getElem_toArray, List.getElem_cons_zero, List.getElem_cons_succ, List.setIfInBounds_toArray, List.set_cons_zero, List.set_cons_succ]
    refine wpAnyH_take (i := 20) (v := ?_) rfl (by kernel_rfl) (by kernel_rfl) (by kernel_rfl) (fun _ _ _ h => h) (Or.inl ⟨by rfl, fun w hSw => ?_⟩) hHeld ?_
    rotate_left
    · ((try dsimp only at hSw); go_split_ands; go_simp; (try with_reducible rfl))
    try simp only [Act.put, List.getElem_toArray, List.getElem_cons_zero, List.getElem_cons_succ, List.setIfInBounds_toArray, List.set_cons_zero, List.set_cons_succ]
    refine wpAnyH_done (by kernel_rfl) ?_ _
    refine NoPanic.normal ?_
    go_wp2_with fail
    go_ret
    exact ⟨ret_bool HF.out.symm, hB3'⟩
  · have hmem : cs ∈ cases a (caseS a (tset (termsL b))) := by have h := HQ.out; rw [hq] at h; exact of_decide_eq_true h.symm
    have HF : Hid (entC a b cs = caseB a b cs) := by show _ = _; rw [HE.out, hq, caseB_ent HB.out hmem]; rfl
    have h9 : cs.length = 9 := (case_iff.1 hmem).1
    have H9 := Lib.hid h9
    clear hq HE hmem h9
    rw [H9.out]
    refine wpAnyH_take (i := 13) (v := ?_) rfl (by kernel_rfl) (by kernel_rfl) (by kernel_rfl) (fun _ _ _ h => h) (Or.inl ⟨by rfl, fun w hSw => ?_⟩) hHeld ?_
    rotate_left
    · ((try dsimp only at hSw); go_split_ands; go_simp; (try with_reducible rfl))
    try simp only [Act.put, List.getElem_toArray, List.getElem_cons_zero, List.getElem_cons_succ, List.setIfInBounds_toArray, List.set_cons_zero, List.set_cons_succ]
    refine wpAnyH_take (i := 14) (v := ?_) rfl (by kernel_rfl) (by kernel_rfl) (by kernel_rfl) (fun _ _ _ h => h) (Or.inl ⟨by rfl, fun w hSw => ?_⟩) hHeld ?_
    rotate_left
    · ((try dsimp only at hSw); go_split_ands; go_simp; (try with_reducible rfl))
    try simp only [Act.put, List.getElem_toArray, List.getElem_cons_zero, List.getElem_cons_succ, List.setIfInBounds_toArray, List.set_cons_zero, List.set_cons_succ]
    refine wpAnyH_take (i := 15) (v := ?_) rfl (by kernel_rfl) (by kernel_rfl) (by kernel_rfl) (fun _ _ _ h => h) (Or.inl ⟨by rfl, fun w hSw => ?_⟩) hHeld ?_
    rotate_left
    · ((try dsimp only at hSw); go_split_ands; go_simp; (try with_reducible rfl))
    try simp only [Act.put, List.getElem_toArray, List.getElem_cons_zero, List.getElem_cons_succ, List.setIfInBounds_toArray, List.set_cons_zero, List.set_cons_succ]
    refine wpAnyH_take (i := 16) (v := ?_) rfl (by kernel_rfl) (by kernel_rfl) (by kernel_rfl) (fun _ _ _ h => h) (Or.inl ⟨by rfl, fun w hSw => ?_⟩) hHeld ?_
    rotate_left
    · ((try dsimp only at hSw); go_split_ands; go_simp; (try with_reducible rfl))
    try simp only [Act.put, List.getElem_toArray, List.getElem_cons_zero, List.getElem_cons_succ, List.setIfInBounds_toArray, List.set_cons_zero, List.set_cons_succ]
    refine wpAnyH_take (i := 17) (v := ?_) rfl (by kernel_rfl) (by kernel_rfl) (by kernel_rfl) (fun _ _ _ h => h) (Or.inl ⟨by rfl, fun w hSw => ?_⟩) hHeld ?_
    rotate_left
    · ((try dsimp only at hSw); go_split_ands; go_simp; (try with_reducible rfl))
    try simp only [Act.put, List.getElem_toArray, List.getElem_cons_zero, List.getElem_cons_succ, List.setIfInBounds_toArray, List.set_cons_zero, List.set_cons_succ]
    refine wpAnyH_ready (rs := [18]) (by kernel_rfl) (by simp) ?_
    refine AllReadyH.cons rfl (fun K hK => ?_) AllReadyH.nil
    try simp only [List.getElem_toArray, List.getElem_cons_zero, List.getElem_cons_succ]
    (go_simp; refine (c_spec_l6Case _ _ A c a b cs _ (hV.out.below hB3') (hV'.out.below hB3') (HX.out.below hB3') HA.out HB.out H9.out).mono ?_; rintro e w5 ⟨rfl, hB5⟩; replace hB3' := bgo hB3' hB5; replace k0 := k0.next hB5; replace k1 := k1.next hB5; clear hB5)
    refine hK.out _ _ (⟨k0.cell, k1.cell⟩) (fun hHeldN => ?_)
    clear hHeld hK K
    have hHeld := hHeldN
    clear hHeldN
    try simp only [Act.put, List.getElem_toArray, List.getElem_cons_zero, List.getElem_cons_succ, List.setIfInBounds_toArray, List.set_cons_zero, List.set_cons_succ]
    refine wpAnyH_take (i := 19) (v := ?_) rfl (by kernel_rfl) (by kernel_rfl) (by kernel_rfl) (fun _ _ _ h => h) (Or.inl ⟨by rfl, fun w hSw => ?_⟩) hHeld ?_
    rotate_left
    · ((try dsimp only at hSw); go_split_ands; go_simp; (try with_reducible rfl))
    try simp only [Act.put, List.getElem_toArray, List.getElem_cons_zero, List.getElem_cons_succ, List.setIfInBounds_toArray, List.set_cons_zero, List.set_cons_succ]
    refine wpAnyH_take (i := 20) (v := ?_) rfl (by kernel_rfl) (by kernel_rfl) (by kernel_rfl) (fun _ _ _ h => h) (Or.inl ⟨by rfl, fun w hSw => ?_⟩) hHeld ?_
    rotate_left
    · ((try dsimp only at hSw); go_split_ands; go_simp; (try with_reducible rfl))
    try simp only [Act.put, List.getElem_toArray, List.getElem_cons_zero, List.getElem_cons_succ, List.setIfInBounds_toArray, List.set_cons_zero, List.set_cons_succ]
    refine wpAnyH_done (by kernel_rfl) ?_ _
    refine NoPanic.normal ?_
    go_wp2_with fail
    go_ret
    exact ⟨ret_bool HF.out.symm, hB3'⟩
end Go.Proofs.Ytmjgcdolnkdfoaa
