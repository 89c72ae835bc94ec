/- Contracts: the spec's ModelsOf. -/
import Derived.Test.YteogcababfenfaaModelsP
import Derived.Test.YteogcababfenfaaSteApp
import Derived.Test.YteogcababfenfaaGrowS
import Derived.Test.YteogcababfenfaaMCasesS
import Derived.Test.YteogcababfenfaaHoldsB
import Derived.Deep.DeepCutAuto
set_option linter.unusedSimpArgs false
set_option linter.unusedVariables false
namespace Go.Proofs.Yteogcababfenfaa
open Go Go.RowKit Go.Proofs
attribute [local go_sem ↓] Go.wp_at_zero Go.wp_at_succ

theorem growF_cells {vs : List Int} {mask : Nat} {last : Bool} (hv : vs.all valB = true) : ∀ (xs : List Atm) (n : Nat) (h h' : List Int), h.all cellB = true → growF vs mask last xs n h = some h' → h'.all cellB = true
  | [], _, h, h', h1, e => by rw [growF] at e; rw [← Option.some.inj e]; exact h1
  | x :: xs, n, h, h', h1, e => by
    rw [growF] at e
    split at e
    · exact growF_cells hv xs n h h' h1 e
    · split at e
      · exact growF_cells hv xs (n + 1) h h' h1 e
      · split at e
        · cases e
        · rename_i h2 e2
          refine growF_cells hv xs (n + 1) h2 h' ?_ e
          unfold growS at e2
          split at e2
          · cases e2
          · rename_i h0
            rw [← Option.some.inj e2, List.all_eq_true]
            have hr := roomF_le h0
            have ht := tval_le hv x.b
            intro y hy
            rcases List.mem_or_eq_of_mem_set hy with hy | rfl
            · rcases List.mem_or_eq_of_mem_set hy with hy | rfl
              · exact List.all_eq_true.1 h1 y hy
              · simp [cellB, valB]; omega
            · simp [cellB, valB]; omega
theorem varF_valid {a : Asn} {c : List Int} {m : Nat} {last : Bool} {s : Ste} (h : varF a c m last = some s) : s.valid = true := by
  have hl := varF_len h
  unfold varF at h
  cases e : growF (modV c) m last (filledL a.atoms c) 0 (modS a c).heap with
  | none => rw [e] at h; cases h
  | some h' =>
    rw [e] at h
    have : s = ⟨modV c, h'⟩ := (Option.some.inj h).symm
    subst this
    have h2 := growF_cells (modV_ok c).2 _ _ _ _ (heapS_cells (modV_ok c).2 _ _ (by decide)) e
    exact Ste.valid_iff.2 ⟨hl.1, hl.2, List.all_eq_true.1 (modV_ok c).2, List.all_eq_true.1 h2⟩
section
variable {t : TypeId} {w w' : World}
theorem KT.own (h : KT t w w') {base size n : Nat} {e : TypeId} {v : Value} {xs : List Value} (ho : w.ownsRow base e size v n xs) (hne : e ≠ t) : w'.ownsRow base e size v n xs := by
  obtain ⟨h1, h2⟩ := ho
  refine ⟨h1, ?_⟩
  rcases h2 with h2 | ⟨k, cap, cur, hv, hg, hh, r⟩
  · exact Or.inl h2
  · exact Or.inr ⟨k, cap, cur, hv, hg, h.blk (g := k) hh hne, r⟩
theorem KT.sso (h : KT t w w') {base : Nat} {v : Value} {vs : List Value} {xss : List (List Int)} (ho : SSO w base v vs xss) (h1 : tIS ≠ t) (h2 : tI ≠ t) : SSO w' base v vs xss :=
  ⟨h.own ho.row h1, ho.lim, ho.len, fun k a b => ⟨h.own (ho.at_ k a b).1 h2, (ho.at_ k a b).2⟩, ho.apart⟩
end
--@ spec.ModelsOf
set_option maxRecDepth 100000 in
set_option maxHeartbeats 6400000 in
theorem c_spec_ModelsOf {lo hi : Nat} (v : Value) (a : Asn) (w : World) (h : AsnV w lo hi v a) (hhi : hi ≤ w.heap.size) :
    Calls Try.prog 9 #[v] w fun e w' => ∃ r, e = .returned r ∧ StesR w' w.heap.size r (modelsV a) ∧ Below w.heap.size w w' := by
  have hV := Lib.hid h
  obtain ⟨A1, c1, A2, c2, rfl, -, -⟩ := h
  go_enter Try.func9, Try.ntmps9
  have k0 : Blk ((w.alloc (.cells #[.slice A1 a.facts.length c1, .slice A2 a.atoms.length c2] tAs)).alloc (.cells #[] tSt)) w.heap.size tAs #[.slice A1 a.facts.length c1, .slice A2 a.atoms.length c2] := blks
  have hB0 : Below w.heap.size w ((w.alloc (.cells #[.slice A1 a.facts.length c1, .slice A2 a.atoms.length c2] tAs)).alloc (.cells #[] tSt)) := bel
  have hs0 : w.heap.size + 2 = ((w.alloc (.cells #[.slice A1 a.facts.length c1, .slice A2 a.atoms.length c2] tAs)).alloc (.cells #[] tSt)).heap.size := by simp
  have hS0 : S2O ((w.alloc (.cells #[.slice A1 a.facts.length c1, .slice A2 a.atoms.length c2] tAs)).alloc (.cells #[] tSt)) (w.heap.size + 1) (.slice (some ⟨w.heap.size + 1, 0, none⟩) 0 0) [] [] := S2O.empty _ (by simp)
  go_wp2_with fail
  generalize ((w.alloc (.cells #[.slice A1 a.facts.length c1, .slice A2 a.atoms.length c2] tAs)).alloc (.cells #[] tSt)) = W at k0 hB0 hs0 hS0 ⊢
  refine (c_spec_CasesOf _ a _ (hV.out.below hB0) (by omega)).mono ?_
  rintro e w1 ⟨r, rfl, hC, hB1⟩
  obtain ⟨⟨cs, hSS⟩, -⟩ := hC
  obtain ⟨A3, n3, rfl⟩ := hSS.form
  have hz1 := hB1.size
  have HB1 := Lib.hid (bgo hB0 hB1)
  replace k0 := k0.next hB1
  have HS0 := Lib.hid ((hS0.below hB1).lower (base' := w.heap.size) (by omega))
  have HSS := Lib.hid hSS
  have hCl : (casesV a).length ≤ 1049600 := by have := hSS.lim; rwa [hSS.len] at this
  have hcl : cs.length = (casesV a).length := hSS.len
  clear hSS hB1 hB0 hS0
  obtain ⟨C, hCe⟩ : ∃ C, C = casesV a := ⟨_, rfl⟩
  have HMV : Hid (modelsV a = casesM a (C.take 4)) := Lib.hid (by rw [hCe]; rfl)
  have HMEM : Hid (∀ X ∈ C, a.valid = true ∧ X ∈ cases a (caseS a 0)) := Lib.hid (by
    rw [hCe]
    unfold casesV
    intro X hX
    split at hX
    · rename_i hv; exact ⟨hv, hX⟩
    · cases hX)
  rw [← hCe] at HSS hCl hcl ⊢
  clear hCe
  go_wp2_with fail
  go_loopg [3, 5] 10 (fun gh s3 s5 wr => ∃ (i : Nat) (vs : List Value) (A : Option Addr) (d : Nat), i ≤ C.length ∧ i ≤ 4 ∧ 10 ≤ gh + i ∧ s5 = .int .i64 i ∧ s3 = .slice A (casesM a (C.take i)).length d ∧ Hid (S2O wr w.heap.size (.slice A (casesM a (C.take i)).length d) vs (casesM a (C.take i))) ∧ Blk wr w.heap.size tAs #[.slice A1 a.facts.length c1, .slice A2 a.atoms.length c2] ∧ Hid (KT tSt w1 wr) ∧ Hid (Below w.heap.size w wr))
  case atStart => exact ⟨0, [], some ⟨w.heap.size + 1, 0, none⟩, 0, Nat.zero_le _, by omega, by omega, rfl, rfl, HS0.out, k0, KT.of (Below.refl _ _), HB1.out⟩
  case round =>
    clear k0 HS0 HB1
    obtain ⟨i, vs, A, d, hiC, hi4, hgi, rfl, rfl, HS, k0, HK, HB⟩ := hrel
    obtain ⟨G0, hG0⟩ : ∃ G0, G0 = gk := ⟨_, rfl⟩
    by_cases hlt : i < C.length
    · have hii : (i : Int) < (C.length : Int) := by omega
      by_cases hlt4 : i < 4
      · have hi4i : (i : Int) < 4 := by omega
        obtain ⟨hav, hXm⟩ := HMEM.out _ (List.getElem_mem hlt)
        have HAV := Lib.hid hav
        have ETK : Hid (casesM a (C.take (i + 1)) = casesM a (C.take i) ++ caseM a C[i] 4) := Lib.hid (by rw [List.take_succ_eq_append_getElem hlt, casesM_snoc])
        have hle := casesM_le a (C.take i)
        have hle2 : (C.take i).length ≤ 4 := by rw [List.length_take]; omega
        have HX9 := Lib.hid (cases_nine _ hXm)
        have HAT := Lib.hid (fun (W : World) (hk : KT tSt w1 W) => (hk.sso HSS.out (by decide) (by decide)).at (k := i) hlt (by omega))
        have HIN := Lib.hid (fun (W : World) (hk : KT tSt w1 W) => (hk.sso HSS.out (by decide) (by decide)).at_ i (by omega) hlt)
        obtain ⟨X, hX⟩ : ∃ X, X = C[i] := ⟨_, rfl⟩
        rw [← hX] at hXm ETK HX9
        have HX := Lib.hid hX
        have HXM := Lib.hid hXm
        obtain ⟨S0, hS0⟩ : ∃ S0, S0 = casesM a (C.take i) := ⟨_, rfl⟩
        rw [← hS0] at HS hle ETK ⊢
        clear hX hS0 hav hXm
        go_wp2_with fail
        go_loopg [3, 6] 5 (fun gh s3 s6 wr => ∃ (k : Nat) (vs : List Value) (A : Option Addr) (d : Nat), k ≤ 4 ∧ 5 ≤ gh + k ∧ s6 = .int .i64 k ∧ s3 = .slice A (S0 ++ caseM a X k).length d ∧ Hid (S2O wr w.heap.size (.slice A (S0 ++ caseM a X k).length d) vs (S0 ++ caseM a X k)) ∧ Blk wr w.heap.size tAs #[.slice A1 a.facts.length c1, .slice A2 a.atoms.length c2] ∧ Hid (KT tSt w1 wr) ∧ Hid (Below w.heap.size w wr))
        case atStart => exact ⟨0, vs, A, d, Nat.zero_le _, by omega, rfl, by simp [caseM], by show S2O _ _ _ _ _; simpa [caseM] using HS.out, k0, HK.out, HB.out⟩
        case round =>
          clear k0 HS HK HB
          obtain ⟨k, vs, A, d, hk, hgk, rfl, rfl, HS, k0, HK, HB⟩ := hrel
          have hzr := HB.out.size
          by_cases hlk : k < 4
          · have hki : (k : Int) < 4 := by omega
            obtain ⟨b, o, B, bc, rfl, lb, g0, hvs⟩ := HAT.out wr HK.out
            have hin := HIN.out wr HK.out
            rw [hvs] at hin
            rw [← HX.out] at g0 hin
            rw [HX9.out] at g0 hin
            have HI := Lib.hid hin.readsI.2
            clear hvs hin
            have hcall := Lib.hid (fun (W' : World) hA hI => c_spec_l6Grow (lo := lo) (hi := hi) (lo2 := w1.heap.size - w1.heap.size + W.heap.size) (hi2 := wr.heap.size) (.agg #[.slice A1 a.facts.length c1, .slice A2 a.atoms.length c2]) a (caseS a 0) X B bc k true W' hA hI HAV.out (caseS_zero a 0) (caseS_terms HAV.out 0) HXM.out hlk)
            rw [show w1.heap.size - w1.heap.size + W.heap.size = W.heap.size by omega] at hcall
            have lk0 := k0.lt
            have hlen : (S0 ++ caseM a X k).length + 1 ≤ 1049600 := by have := caseM_le a X k; rw [List.length_append]; omega
            obtain ⟨SK, hSK⟩ : ∃ SK, SK = S0 ++ caseM a X k := ⟨_, rfl⟩
            rw [← hSK] at HS hlen ⊢
            have HSK := Lib.hid hSK
            clear hSK
            go_upto_region 9 with fail
            go_cut [7, 8] (fun s7 s8 wc => ∃ (x : Nat) (F : Option Addr) (e1 : Nat) (G : Option Addr) (e2 : Nat) (t : Ste), s7 = .pointer (some ⟨x, 0, none⟩) ∧ s8 = .bool (varF a X k true).isSome ∧ Hid (StateO wc wr.heap.size (.agg #[.slice F t.values.length e1, .slice G t.heap.length e2]) t) ∧ Blk wc x tSt #[.slice F t.values.length e1, .slice G t.heap.length e2] ∧ Hid ((varF a X k true).isSome = true → varF a X k true = some t) ∧ Hid (Below wr.heap.size wr wc))
            case first =>
              go_wp2_with fail
              refine wp_region_noPanic ?_
              refine wp_region_held_drew (S := (fun w' => (∀ i, w'.cell? ⟨w.heap.size, i, none⟩ = #[.slice A1 a.facts.length c1, .slice A2 a.atoms.length c2][i]?) ∧ w'.cell? ⟨b, o + i, none⟩ = some (.slice B 9 bc))) (by kernel_rfl) (⟨Blk.cell blks, g0⟩) (fun hHeld => ?_)
              refine wpAnyH_take (i := 0) (v := ?_) rfl (by kernel_rfl) (by kernel_rfl) (by kernel_rfl) (fun _ _ _ h => h) (Or.inl ⟨by rfl, fun w hSw => ?_⟩) hHeld ?_
              rotate_left
              · ((try dsimp only at hSw); go_split_ands; go_simp; (try with_reducible rfl))
              try simp only [Act.put, List.getElem_toArray, List.getElem_cons_zero, List.getElem_cons_succ, List.setIfInBounds_toArray, List.set_cons_zero, List.set_cons_succ]
              refine wpAnyH_take (i := 1) (v := ?_) rfl (by kernel_rfl) (by kernel_rfl) (by kernel_rfl) (fun _ _ _ h => h) (Or.inl ⟨by rfl, fun w hSw => ?_⟩) hHeld ?_
              rotate_left
              · ((try dsimp only at hSw); go_split_ands; go_simp; (try with_reducible rfl))
              try simp only [Act.put, List.getElem_toArray, List.getElem_cons_zero, List.getElem_cons_succ, List.setIfInBounds_toArray, List.set_cons_zero, List.set_cons_succ]
              refine wpAnyH_take (i := 2) (v := ?_) rfl (by kernel_rfl) (by kernel_rfl) (by kernel_rfl) (fun _ _ _ h => h) (Or.inl ⟨by rfl, fun w hSw => ?_⟩) hHeld ?_
              rotate_left
              · ((try dsimp only at hSw); go_split_ands; go_simp; (try with_reducible rfl))
              try simp only [Act.put, List.getElem_toArray, List.getElem_cons_zero, List.getElem_cons_succ, List.setIfInBounds_toArray, List.set_cons_zero, List.set_cons_succ]
              refine wpAnyH_take (i := 3) (v := ?_) rfl (by kernel_rfl) (by kernel_rfl) (by kernel_rfl) (fun _ _ _ h => h) (Or.inl ⟨by rfl, fun w hSw => ?_⟩) hHeld ?_
              rotate_left
              · ((try dsimp only at hSw); go_split_ands; go_simp; (try with_reducible rfl))
              try simp only [Act.put, List.getElem_toArray, List.getElem_cons_zero, List.getElem_cons_succ, List.setIfInBounds_toArray, List.set_cons_zero, List.set_cons_succ]
              refine wpAnyH_take (i := 4) (v := ?_) rfl (by kernel_rfl) (by kernel_rfl) (by kernel_rfl) (fun _ _ _ h => h) (Or.inl ⟨by rfl, fun w hSw => ?_⟩) hHeld ?_
              rotate_left
              · ((try dsimp only at hSw); go_split_ands; go_simp; (try with_reducible rfl))
              try simp only [Act.put, List.getElem_toArray, List.getElem_cons_zero, List.getElem_cons_succ, List.setIfInBounds_toArray, List.set_cons_zero, List.set_cons_succ]
              refine wpAnyH_take (i := 5) (v := ?_) rfl (by kernel_rfl) (by kernel_rfl) (by kernel_rfl) (fun _ _ _ h => h) (Or.inl ⟨by rfl, fun w hSw => ?_⟩) hHeld ?_
              rotate_left
              · ((try dsimp only at hSw); go_split_ands; go_simp; (try with_reducible rfl))
              try simp only [Act.put, List.getElem_toArray, List.getElem_cons_zero, List.getElem_cons_succ, List.setIfInBounds_toArray, List.set_cons_zero, List.set_cons_succ]
              refine wpAnyH_ready (rs := [6, 10]) (by kernel_rfl) (by simp) ?_
              refine AllReadyH.cons rfl (fun K hK => ?_) (AllReadyH.cons rfl (fun K hK => ?_) (AllReadyH.nil))
              · skip
                try simp only [List.getElem_toArray, List.getElem_cons_zero, List.getElem_cons_succ]
                go_simp
                refine (hcall.out _ (hV.out.below HB.out.drew) (HI.out.below (Below.refl _ _).drew)).mono ?_; rintro e w6 ⟨r6, t6, rfl, o6, ht6, hB6⟩; have hb6 : Below wr.heap.size wr w6 := (Below.refl _ _).drew.trans hB6; have k6 := k0.next hb6; have g6' := (hb6.cell (p := ⟨b, o + i, none⟩) lb).trans g0
                obtain ⟨fv, av, rfl, n1, n2, dj⟩ := o6
                obtain ⟨F, e1, rfl, -⟩ := n1.reads
                obtain ⟨G, e2, rfl, -⟩ := n2.reads
                have HO6 : Hid (StateO w6 wr.heap.size (.agg #[.slice F t6.values.length e1, .slice G t6.heap.length e2]) t6) := Lib.hid ⟨_, _, rfl, n1, n2, dj⟩
                refine hK.out _ _ ⟨k6.cell, g6'⟩ (fun hHeldN => ?_)
                clear hHeld hK K
                have hHeld := hHeldN
                clear hHeldN
                have l6 := k6.lt
                have hb6l := block_lt_of_cell g6'
                simp only at hb6l
                have HT6 := Lib.hid ht6
                clear n1 n2 dj hB6 ht6
                refine wpAnyH_take (i := 7) (v := ?_) rfl (by kernel_rfl) (by kernel_rfl) (by kernel_rfl) (fun _ _ _ h => h) (Or.inl ⟨by rfl, fun w hSw => ?_⟩) hHeld ?_
                rotate_left
                · ((try dsimp only at hSw); go_split_ands; go_simp; (try with_reducible rfl))
                try simp only [Act.put, List.getElem_toArray, List.getElem_cons_zero, List.getElem_cons_succ, List.setIfInBounds_toArray, List.set_cons_zero, List.set_cons_succ]
                refine wpAnyH_take (i := 8) (v := ?_) rfl (by kernel_rfl) (by kernel_rfl) (by kernel_rfl) (fun _ _ _ h => h) (Or.inl ⟨by rfl, fun w hSw => ?_⟩) hHeld ?_
                rotate_left
                · ((try dsimp only at hSw); go_split_ands; go_simp; (try with_reducible rfl))
                try simp only [Act.put, List.getElem_toArray, List.getElem_cons_zero, List.getElem_cons_succ, List.setIfInBounds_toArray, List.set_cons_zero, List.set_cons_succ]
                refine wpAnyH_take (i := 9) (v := ?_) rfl (by kernel_rfl) (by kernel_rfl) (by kernel_rfl) (fun _ _ _ h => h) (Or.inl ⟨by rfl, fun w hSw => ?_⟩) hHeld ?_
                rotate_left
                · ((try dsimp only at hSw); go_split_ands; go_simp; (try with_reducible rfl))
                try simp only [Act.put, List.getElem_toArray, List.getElem_cons_zero, List.getElem_cons_succ, List.setIfInBounds_toArray, List.set_cons_zero, List.set_cons_succ]
                refine wpAnyH_ready (rs := [10]) (by kernel_rfl) (by simp) ?_
                refine AllReadyH.cons rfl (fun K hK => ?_) AllReadyH.nil
                try simp only [List.getElem_toArray, List.getElem_cons_zero, List.getElem_cons_succ]
                go_simp
                refine hK.out _ _ (⟨Blk.cell blks, ((show Below w6.heap.size w6 _ from bel).cell (p := ⟨b, o + i, none⟩) hb6l).trans g6'⟩) (fun hHeldN => ?_)
                clear hHeld hK K
                have hHeld := hHeldN
                clear hHeldN
                try simp only [Act.put, List.getElem_toArray, List.getElem_cons_zero, List.getElem_cons_succ, List.setIfInBounds_toArray, List.set_cons_zero, List.set_cons_succ]
                refine wpAnyH_ready (rs := [11]) (by kernel_rfl) (by simp) ?_
                refine AllReadyH.cons rfl (fun K hK => ?_) AllReadyH.nil
                try simp only [List.getElem_toArray, List.getElem_cons_zero, List.getElem_cons_succ]
                go_simp
                refine hK.out _ _ (⟨Blk.cell blks, ((show Below w6.heap.size w6 _ from bel).cell (p := ⟨b, o + i, none⟩) hb6l).trans g6'⟩) (fun hHeldN => ?_)
                clear hHeld hK K
                have hHeld := hHeldN
                clear hHeldN
                try simp only [Act.put, List.getElem_toArray, List.getElem_cons_zero, List.getElem_cons_succ, List.setIfInBounds_toArray, List.set_cons_zero, List.set_cons_succ]
                refine wpAnyH_ready (rs := [12]) (by kernel_rfl) (by simp) ?_
                refine AllReadyH.cons rfl (fun K hK => ?_) AllReadyH.nil
                try simp only [List.getElem_toArray, List.getElem_cons_zero, List.getElem_cons_succ]
                go_simp
                refine hK.out _ _ (⟨Blk.cell blks, ((show Below w6.heap.size w6 _ from bel).cell (p := ⟨b, o + i, none⟩) hb6l).trans g6'⟩) (fun hHeldN => ?_)
                clear hHeld hK K
                have hHeld := hHeldN
                clear hHeldN
                try simp only [Act.put, List.getElem_toArray, List.getElem_cons_zero, List.getElem_cons_succ, List.setIfInBounds_toArray, List.set_cons_zero, List.set_cons_succ]
                refine wpAnyH_done (by kernel_rfl) ?_ _
                refine NoPanic.normal ?_
                go_wp2_with fail
                go_meet
                case rel => exact ⟨w6.heap.size, F, e1, G, e2, t6, rfl, rfl, Lib.hid (HO6.out.below (bbox (Below.refl _ _) _)), Blk.new _ _ _, HT6, Lib.hid (bbox hb6 _)⟩
              · skip
                try simp only [List.getElem_toArray, List.getElem_cons_zero, List.getElem_cons_succ]
                go_simp
                refine hK.out _ _ ⟨Blk.cell blks, ((show Below wr.heap.size wr _ from bel).cell (p := ⟨b, o + i, none⟩) lb).trans g0⟩ (fun hHeldN => ?_)
                clear hHeld hK K
                have hHeld := hHeldN
                clear hHeldN
                refine wpAnyH_ready (rs := [6]) (by kernel_rfl) (by simp) ?_
                refine AllReadyH.cons rfl (fun K hK => ?_) AllReadyH.nil
                try simp only [List.getElem_toArray, List.getElem_cons_zero, List.getElem_cons_succ]
                (go_simp; refine (hcall.out _ (hV.out.below (bgo HB.out (show Below wr.heap.size wr _ from bel))) (HI.out.below bel)).mono ?_; rintro e w6 ⟨r6, t6, rfl, o6, ht6, hB6⟩; have hb6 := bgo (w := wr) bel hB6; have k6 := k0.next hb6; have g6' := (hb6.cell (p := ⟨b, o + i, none⟩) lb).trans g0; have kb6 := Blk.next (g := wr.heap.size) (t := tSt) (cs := #[.slice none 0 0, .slice none 0 0]) (Blk.drew (Blk.newE rfl)) hB6; obtain ⟨fv, av, rfl, n1, n2, dj⟩ := o6; obtain ⟨F, e1, rfl, -⟩ := n1.reads; obtain ⟨G, e2, rfl, -⟩ := n2.reads; have HO6 : Hid (StateO w6 wr.heap.size (.agg #[.slice F t6.values.length e1, .slice G t6.heap.length e2]) t6) := Lib.hid (StateO.lower ⟨_, _, rfl, n1, n2, dj⟩ (by simp)); have HT6 := Lib.hid ht6; clear n1 n2 dj hB6 ht6)
                refine hK.out _ _ (⟨k6.cell, g6'⟩) (fun hHeldN => ?_)
                clear hHeld hK K
                have hHeld := hHeldN
                clear hHeldN
                try simp only [Act.put, List.getElem_toArray, List.getElem_cons_zero, List.getElem_cons_succ, List.setIfInBounds_toArray, List.set_cons_zero, List.set_cons_succ]
                have l6 := k6.lt
                have qb := kb6.cell
                have rb := kb6.frozen
                have lb6 := kb6.lt
                refine wpAnyH_take (i := 7) (v := ?_) rfl (by kernel_rfl) (by kernel_rfl) (by kernel_rfl) (fun _ _ _ h => h) (Or.inl ⟨by rfl, fun w hSw => ?_⟩) hHeld ?_
                rotate_left
                · ((try dsimp only at hSw); go_split_ands; go_simp; (try with_reducible rfl))
                try simp only [Act.put, List.getElem_toArray, List.getElem_cons_zero, List.getElem_cons_succ, List.setIfInBounds_toArray, List.set_cons_zero, List.set_cons_succ]
                refine wpAnyH_take (i := 8) (v := ?_) rfl (by kernel_rfl) (by kernel_rfl) (by kernel_rfl) (fun _ _ _ h => h) (Or.inl ⟨by rfl, fun w hSw => ?_⟩) hHeld ?_
                rotate_left
                · ((try dsimp only at hSw); go_split_ands; go_simp; (try with_reducible rfl))
                try simp only [Act.put, List.getElem_toArray, List.getElem_cons_zero, List.getElem_cons_succ, List.setIfInBounds_toArray, List.set_cons_zero, List.set_cons_succ]
                refine wpAnyH_take (i := 9) (v := ?_) rfl (by kernel_rfl) (by kernel_rfl) (by kernel_rfl) (fun _ _ _ h => h) (Or.inl ⟨by rfl, fun w hSw => ?_⟩) hHeld ?_
                rotate_left
                · ((try dsimp only at hSw); go_split_ands; go_simp; (try with_reducible rfl))
                try simp only [Act.put, List.getElem_toArray, List.getElem_cons_zero, List.getElem_cons_succ, List.setIfInBounds_toArray, List.set_cons_zero, List.set_cons_succ]
                refine wpAnyH_ready (rs := [11]) (by kernel_rfl) (by simp) ?_
                refine AllReadyH.cons rfl (fun K hK => ?_) AllReadyH.nil
                try simp only [List.getElem_toArray, List.getElem_cons_zero, List.getElem_cons_succ]
                go_simp
                refine hK.out _ _ (⟨Blk.cell blks, ((show Below wr.heap.size w6 _ from bel).cell (p := ⟨b, o + i, none⟩) lb).trans g6'⟩) (fun hHeldN => ?_)
                clear hHeld hK K
                have hHeld := hHeldN
                clear hHeldN
                try simp only [Act.put, List.getElem_toArray, List.getElem_cons_zero, List.getElem_cons_succ, List.setIfInBounds_toArray, List.set_cons_zero, List.set_cons_succ]
                refine wpAnyH_ready (rs := [12]) (by kernel_rfl) (by simp) ?_
                refine AllReadyH.cons rfl (fun K hK => ?_) AllReadyH.nil
                try simp only [List.getElem_toArray, List.getElem_cons_zero, List.getElem_cons_succ]
                go_simp
                refine hK.out _ _ (⟨Blk.cell blks, ((show Below wr.heap.size w6 _ from bel).cell (p := ⟨b, o + i, none⟩) lb).trans g6'⟩) (fun hHeldN => ?_)
                clear hHeld hK K
                have hHeld := hHeldN
                clear hHeldN
                try simp only [Act.put, List.getElem_toArray, List.getElem_cons_zero, List.getElem_cons_succ, List.setIfInBounds_toArray, List.set_cons_zero, List.set_cons_succ]
                refine wpAnyH_done (by kernel_rfl) ?_ _
                refine NoPanic.normal ?_
                go_wp2_with fail
                go_meet
                case rel =>
                  refine ⟨wr.heap.size, F, e1, G, e2, t6, rfl, rfl, Lib.hid (HO6.out.setR kb6 (by decide) _ _), ?_, HT6, Lib.hid ((hb6.setCell (Nat.le_refl _) _).setCell (Nat.le_refl _) _)⟩
                  have := (kb6.set_ 0 (.slice F t6.values.length e1)).set_ 1 (.slice G t6.heap.length e2)
                  simpa using this
            case rest =>
              obtain ⟨x, F, e1, G, e2, t, rfl, rfl, HO, kS, HT, HW⟩ := hcut
              have k0x := k0.next HW.out
              have HBx := Lib.hid (bgo HB.out HW.out)
              have HSx := Lib.hid (HS.out.below HW.out)
              have HKx := Lib.hid (HK.out.trans (KT.of HW.out))
              have HSUC := Lib.hid (caseM_succ a X k)
              cases hok : (varF a X k true).isSome
              · have HN : Hid (S0 ++ caseM a X (k + 1) = SK) := Lib.hid (by rw [HSUC.out, pick_no hok, List.append_nil, HSK.out])
                clear hok HT HSUC HO
                go_wp2_with fail
                go_roundg (gk - 1)
                case rel => exact ⟨k + 1, vs, A, d, by omega, by omega, by go_num, by rw [HN.out], by rw [HN.out]; exact HSx.out, k0x, HKx.out, HBx.out⟩
                case measure => omega
              have HTS := Lib.hid (HT.out hok)
              have HT2 := Lib.hid (pick_yes (HT.out hok))
              have HTV := Lib.hid (varF_valid (HT.out hok))
              clear hok HT
              have q0 := k0x.cell
              have l0 := k0x.lt
              have qS := kS.cell
              have lS := kS.lt
              go_wp2_with fail
              refine (c_spec_l4Holds _ _ t a _ HO.out.reads (hV.out.below HBx.out) HTV.out HAV.out).mono ?_
              rintro e w4 ⟨rfl, hB4⟩
              have HO4 := Lib.hid (HO.out.below hB4)
              have kS4 := kS.next hB4
              have k04 := k0x.next hB4
              have HB4 := Lib.hid (bgo HBx.out hB4)
              have HW4 := Lib.hid (bgo HW.out hB4)
              have HS4 := Lib.hid (HSx.out.below hB4)
              have HK4 := Lib.hid (HKx.out.trans (KT.of hB4))
              clear hB4 HO kS k0x HBx HW HSx HKx q0 l0 qS lS
              cases hh : holdsF t a
              · have HN : Hid (S0 ++ caseM a X (k + 1) = SK) := Lib.hid (by rw [HSUC.out, HT2.out, hh, HSK.out]; simp)
                clear hh HT2 HSUC HO4
                go_wp2_with fail
                go_roundg (gk - 1)
                case rel => exact ⟨k + 1, vs, A, d, by omega, by omega, by go_num, by rw [HN.out], by rw [HN.out]; exact HS4.out, k04, HK4.out, HB4.out⟩
                case measure => omega
              have HN2 : Hid (S0 ++ caseM a X (k + 1) = SK ++ [t]) := Lib.hid (by rw [HSUC.out, HT2.out, hh, if_pos rfl, HSK.out, List.append_assoc])
              clear hh HT2 HSUC
              have hw4 : w.heap.size ≤ w4.heap.size := HB4.out.size
              have qS := kS4.cell
              have lS := kS4.lt
              go_wp2_with (at_builtin; refine appS2 (w0 := wr) (base := w.heap.size) rfl _ _ rfl rfl HS.out (bbox HW4.out _) hzr (StateO.below HO4.out (bbox (Below.refl _ _) _)) (Blk.new w4 tSt _) rfl hlen ?_; intro A' c' w6 hS6 hg6 hB6; have hrow := own_below HS4.out.row (bbox (Below.refl _ w4) (.cells #[.slice F t.values.length e1, .slice G t.heap.length e2] tSt)); have k06 := (KT.app hrow hg6).blk (k04.alloc _) (by decide); have HK6 := Lib.hid (HK4.out.trans (KT.trans (KT.of (t := tSt) (bbox (Below.refl _ w4) (.cells #[.slice F t.values.length e1, .slice G t.heap.length e2] tSt))) (KT.app hrow hg6))); have HB6 := Lib.hid (HB4.out.trans (((Below.refl w.heap.size w4).alloc hw4 _).trans hB6)); have HS6 := Lib.hid hS6; clear hg6 hB6 hrow hS6)
              go_roundg (gk - 1)
              case rel => exact ⟨k + 1, _, A', c', by omega, by omega, by go_num, by rw [HN2.out]; simp, by rw [HN2.out]; show S2O _ _ _ _ _; simpa using HS6.out, k06, HK6.out, HB6.out⟩
              case measure => omega
          · obtain rfl : k = 4 := by omega
            go_wp2_with fail
            go_roundg (G0 - 1)
            case rel => exact ⟨i + 1, vs, A, d, by omega, by omega, by omega, by go_num, by rw [ETK.out], by rw [ETK.out]; exact HS.out, k0, HK.out, HB.out⟩
            case measure => omega
      · obtain rfl : i = 4 := by omega
        go_wp2_with fail
        go_ret
        exact ⟨_, rfl, ⟨⟨vs, by rw [HMV.out]; exact HS.out⟩, modelsV_tot a⟩, HB.out⟩
    · obtain rfl : i = C.length := by omega
      have hi4' := hi4
      rw [List.take_length] at HS
      have HMV2 : Hid (modelsV a = casesM a C) := Lib.hid (by rw [HMV.out, List.take_of_length_le hi4'])
      rw [List.take_length]
      go_wp2_with fail
      go_ret
      exact ⟨_, rfl, ⟨⟨vs, by rw [HMV2.out]; exact HS.out⟩, modelsV_tot a⟩, HB.out⟩
--@
end Go.Proofs.Yteogcababfenfaa
