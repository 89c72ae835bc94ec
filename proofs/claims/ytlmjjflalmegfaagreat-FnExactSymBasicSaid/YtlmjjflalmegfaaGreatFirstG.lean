/- Contracts: the spec's first case, for terms that are terms. -/
import Derived.Test.YtlmjjflalmegfaaGreatMExpA
set_option linter.unusedSimpArgs false
set_option linter.unusedVariables false
namespace Go.Proofs.YtlmjjflalmegfaaGreat
open Go Go.RowKit Go.Proofs
attribute [local go_sem ↓] Go.wp_at_zero Go.wp_at_succ
--@ spec.l5First
set_option maxRecDepth 100000 in
set_option maxHeartbeats 6400000 in
theorem c_spec_l5FirstG {a : Asn} {S lo hi lo2 hi2 : Nat} {A1 A2 : Option Addr} {d1 d2 : Nat} (T : Option Addr) (tc : Nat) (hOK : Hid (FactsOk a.facts ∧ AtomsOk a.atoms)) (hvl0 : Hid (a.facts.length ≤ 40 ∧ a.atoms.length ≤ 6)) :
    ∀ (n : Nat) (c : List Int) (B : Option Addr) (cc lo' hi' : Nat) (w : World), n ≤ 8 → c.length = 9 → (∀ j : Nat, j < 9 - n → S.testBit j = true → 0 ≤ cl c j ∧ cl c j ≤ j) → (∀ j : Nat, j < 9 → cl c j ≤ 8) →
      AsnV w lo hi (.agg #[.slice A1 a.facts.length d1, .slice A2 a.atoms.length d2]) a → BoolsV w lo2 hi2 T (flagsOf S) → IntsV w lo' hi' B c →
      Calls Tryz.prog 176 #[.agg #[.slice A1 a.facts.length d1, .slice A2 a.atoms.length d2], .slice T 9 tc, .slice B 9 cc, .int .i64 ((9 - n : Nat) : Int)] w fun e w' =>
        ∃ r, e = .returned (.tuple #[r, .bool (!(seek a S n c).isEmpty)]) ∧ IntsO w' w.heap.size r (firstI (seek a S n c)) ∧ Below w.heap.size w w' := by
  intro n
  induction n with
  | zero =>
    intro c B cc lo' hi' w hn hc _ hc8 hA hT hI
    have HO := hOK
    have hV := Lib.hid hA
    have HC := Lib.hid hc
    have HI := Lib.hid hI
    have HCL : Hid (∀ x ∈ a.atoms, cl c x.a ≤ 8) := fun x hx => by
      have := (HO.out.2 x hx).1
      obtain ⟨t, et⟩ := Int.eq_ofNat_of_zero_le this.1
      rw [et]; exact hc8 t (by omega)
    obtain ⟨B1, e1, B2, e2, he, h1, h2⟩ := hA
    injection he with he; injection he with he; injection he with he1 he2; injection he2 with he2 he3
    injection he1 with he1 _ he4; injection he2 with he2 _ he5
    subst he1 he4 he2 he5
    have H1 := Lib.hid h1
    have H2 := Lib.hid h2
    have hvl := hvl0.out
    clear h1 h2 hc hc8 hT hI he3
    go_enter Tryz.func176, Tryz.ntmps176
    go_wp2_with fail
    refine (c_fits9 A1 B d1 cc a.facts c _ (H1.out.below bel) (HI.out.below bel) HC.out HO.out.1).mono ?_
    rintro e w1 ⟨rfl, rfl⟩
    cases hf : fitsS c a.facts
    · have E := Lib.hid (seek_cut (a := a) (S := S) 0 (c := c) (by rw [hf]; rfl))
      clear hf
      go_wp2_with fail
      go_ret2
      exact ⟨_, by rw [E.out]; rfl, by rw [E.out]; exact IntsO.lower (IntsO.empty _ (by simp)) (by simp), bel⟩
    have HF := Lib.hid hf
    clear hf
    go_wp2_with fail
    refine (c_early9 A2 B d2 cc a.atoms c _ (H2.out.below bel) (HI.out.below bel) HC.out HO.out.2 HCL.out).mono ?_
    rintro e w2 ⟨rfl, hB2⟩
    have hB : Below w.heap.size w w2 := bgo (w := w) bel hB2
    have k0 : Blk w2 w.heap.size tAs #[.slice A1 a.facts.length d1, .slice A2 a.atoms.length d2] := Blk.next blks hB2
    have q0 := k0.cell
    have l0 := k0.lt
    clear hB2
    cases he : earlyF c [] a.atoms
    · have E := Lib.hid (seek_cut (a := a) (S := S) 0 (c := c) (by rw [HF.out, he]; rfl))
      clear he
      go_wp2_with fail
      go_ret2
      exact ⟨_, by rw [E.out]; rfl, by rw [E.out]; exact IntsO.lower (IntsO.empty _ rfl) (by omega), bel⟩
    have E0 := Lib.hid (seek_leaf (a := a) (S := S) (c := c) (by rw [HF.out, he]; rfl))
    clear he
    go_wp2_with fail
    refine (c_filled9 A2 B d2 cc a.atoms c _ (H2.out.below hB) (HI.out.below hB) HC.out HO.out.2).mono ?_
    rintro e w3 ⟨r3, rfl, o3, hB3⟩
    obtain ⟨R3, e3, rfl, v3⟩ := o3.reads
    have hBB : Below w.heap.size w w3 := bgo hB hB3
    go_wp2_with fail
    refine (c_spec_l5Apart R3 e3 (filledL a.atoms c) _ v3).mono ?_
    rintro e w4 ⟨rfl, hB4⟩
    have hB5 : Below w.heap.size w w4 := bgo hBB hB4
    have hz := hB5.size
    clear o3 v3 hB3 hB4 hBB q0 l0 k0 hB
    cases hap : apartF [] (filledL a.atoms c)
    · have E := Lib.hid (show seek a S 0 c = [] by rw [E0.out, hap]; rfl)
      clear hap
      go_wp2_with fail
      go_ret2
      exact ⟨_, by rw [E.out]; rfl, by rw [E.out]; exact IntsO.lower (IntsO.empty _ rfl) (by omega), bel⟩
    · have E := Lib.hid (show seek a S 0 c = [c] by rw [E0.out, hap]; rfl)
      clear hap
      go_wp2_with (at_builtin; refine appIL (ys := c) rfl _ _ rfl (v := .slice (some ⟨w4.heap.size, 0, none⟩) 0 0) rfl (IntsO.empty w4 rfl) (by rw [HC.out]; rfl) (HI.out.below bel) (by rw [HC.out]; simp) (by simp) ?_; intro A' c' w5 o5 hg5 hB6; rw [List.nil_append, HC.out])
      go_ret2
      exact ⟨_, by rw [E.out]; rfl, by rw [E.out]; rw [List.nil_append, HC.out] at o5; exact o5.lower hz, Below.trans bel (hB6.mono hz)⟩
  | succ n ih =>
    intro c B cc lo' hi' w hn hc hcl hc8 hA hT hI
    have HO := hOK
    have hV := Lib.hid hA
    have HC := Lib.hid hc
    have HI := Lib.hid hI
    have HTT := Lib.hid hT
    have HC8 := Lib.hid hc8
    have HCL0 := Lib.hid hcl
    have IH := Lib.hid ih
    have HCL : Hid (∀ x ∈ a.atoms, cl c x.a ≤ 8) := fun x hx => by
      have := (HO.out.2 x hx).1
      obtain ⟨t, et⟩ := Int.eq_ofNat_of_zero_le this.1
      rw [et]; exact hc8 t (by omega)
    obtain ⟨B1, e1, B2, e2, he, h1, h2⟩ := hA
    injection he with he; injection he with he; injection he with he1 he2; injection he2 with he2 he3
    injection he1 with he1 _ he4; injection he2 with he2 _ he5
    subst he1 he4 he2 he5
    have H1 := Lib.hid h1
    have H2 := Lib.hid h2
    obtain ⟨tb, to, rfl, ltb⟩ := flags_addr hT
    obtain ⟨pb, ob, rfl, lpb⟩ := hI.blt (k := 0) (by omega)
    obtain ⟨m, hm8⟩ : ∃ m, m = 8 - n := ⟨_, rfl⟩
    have E1 : Hid (((9 - n : Nat) : Int) = (m : Int) + 1) := by show _ = _; omega
    rw [show 9 - (n + 1) = m from by omega] at HCL0 ⊢
    have HM8 := Lib.hid hm8
    have HN := Lib.hid hn
    have hmg : ¬ (8 < (m : Int)) := by omega
    have hmi9 : (m : Int) < 9 := by omega
    clear h1 h2 hc hc8 hcl hT hI he3 ih hm8 hn
    go_enter Tryz.func176, Tryz.ntmps176
    go_wp2_with fail
    refine (c_fits9 A1 _ d1 cc a.facts c _ (H1.out.below bel) (HI.out.below bel) HC.out HO.out.1).mono ?_
    rintro e w1 ⟨rfl, rfl⟩
    cases hf : fitsS c a.facts
    · have E := Lib.hid (seek_cut (a := a) (S := S) (n + 1) (c := c) (by rw [hf]; rfl))
      clear hf
      go_wp2_with fail
      go_ret2
      exact ⟨_, by rw [E.out]; rfl, by rw [E.out]; exact IntsO.lower (IntsO.empty _ (by simp)) (by simp), bel⟩
    have HF := Lib.hid hf
    clear hf
    go_wp2_with fail
    refine (c_early9 A2 _ d2 cc a.atoms c _ (H2.out.below bel) (HI.out.below bel) HC.out HO.out.2 HCL.out).mono ?_
    rintro e w2 ⟨rfl, hB2⟩
    have hB : Below w.heap.size w w2 := bgo (w := w) bel hB2
    have k0 : Blk w2 w.heap.size tAs #[.slice A1 a.facts.length d1, .slice A2 a.atoms.length d2] := Blk.next blks hB2
    have q0 := k0.cell
    have l0 := k0.lt
    clear hB2
    cases he : earlyF c [] a.atoms
    · have E := Lib.hid (seek_cut (a := a) (S := S) (n + 1) (c := c) (by rw [HF.out, he]; rfl))
      clear he
      go_wp2_with fail
      go_ret2
      exact ⟨_, by rw [E.out]; rfl, by rw [E.out]; exact IntsO.lower (IntsO.empty _ rfl) (by omega), bel⟩
    have E0 := Lib.hid (seek_step (a := a) (S := S) (n := n) (c := c) (by rw [HF.out, he]; rfl))
    clear he
    have qt := flags_at (HTT.out.below hB) (m := m) (by omega)
    cases ht : S.testBit m
    · rw [ht] at qt
      have E : Hid (seek a S (n + 1) c = seek a S n c) := by show _ = _; rw [E0.out, ← HM8.out, ht]; rfl
      have ih1 := IH.out c _ cc _ _ w2 (by have := HN.out; omega) HC.out (fun j hj hS => by
        by_cases e : j = m
        · subst e; rw [ht] at hS; cases hS
        · exact HCL0.out j (by have := HM8.out; have := HN.out; omega) hS) HC8.out (hV.out.below hB) (HTT.out.below hB) (HI.out.below hB)
      rw [E1.out] at ih1
      have IH1 := Lib.hid ih1
      clear ih1 ht
      go_wp2_with fail
      refine IH1.out.mono ?_
      rintro e w3 ⟨r, rfl, o3, hB3⟩
      have O3 := Lib.hid o3
      have hz := hB.size
      clear o3
      go_wp2_with fail
      go_ret2
      exact ⟨r, by rw [E.out]; rfl, by rw [E.out]; exact O3.out.lower hz, bgo hB hB3⟩
    · rw [ht] at qt
      have E : Hid (seek a S (n + 1) c = (List.range (9 - n)).flatMap (seekAt a S n c)) := by show _ = _; rw [E0.out, ← HM8.out, ht]; rfl
      clear ht
      go_wp2_with fail
      go_loopw [10] (fun i wr => ∃ k : Nat, k ≤ m + 1 ∧ i = .int .i64 k ∧ Hid ((List.range k).flatMap (seekAt a S n c) = []) ∧ Blk wr w.heap.size tAs #[.slice A1 a.facts.length d1, .slice A2 a.atoms.length d2] ∧ Below w.heap.size w wr) (fun i _ => 9 - (intOf i).toNat)
      case atStart => exact ⟨0, Nat.zero_le _, rfl, rfl, k0, hB⟩
      case round =>
        clear k0 hB q0 l0 qt
        obtain ⟨k, hk, rfl, HP, k0, hB⟩ := hrel
        have q0 := k0.cell
        have l0 := k0.lt
        have hz := hB.size
        by_cases hlt : k ≤ m
        · have hki : (k : Int) ≤ (m : Int) := by omega
          have hk9 : (k : Int) < 9 := by omega
          have hkc := ints_cl (HI.out.below hB) (m := k) (by rw [HC.out]; omega)
          have HNX : Hid ((List.range (k + 1)).flatMap (seekAt a S n c) = seekAt a S n c k) := by show _ = _; rw [List.range_succ, List.flatMap_append, HP.out]; simp
          by_cases hskip : k < m ∧ cl c k ≠ k
          · have HX : Hid (seekAt a S n c k = []) := by show _ = _; rw [seekAt, if_pos (by rw [← HM8.out]; exact hskip)]
            have hkm : (k : Int) < (m : Int) := by omega
            have hne : (cl c k != (k : Int)) = true := by simpa using hskip.2
            clear hskip hki hlt
            go_wp2_with fail
            go_round
            case rel => exact ⟨k + 1, by omega, by go_num, by show _ = _; rw [HNX.out, HX.out], k0, hB⟩
            case measure => simp [intOf]; omega
          · have hsk2 : k < m → (cl c k != (k : Int)) = false := fun h => by
              cases Int.decEq (cl c k) k with
              | isTrue h => simp [h]
              | isFalse h' => exact absurd ⟨h, h'⟩ hskip
            have HX : Hid (seekAt a S n c k = seek a S n (c.set m k)) := by
              show _ = _
              rw [seekAt, ← HM8.out, if_neg hskip]
            clear hskip
            have hcs : (c.set m (k : Int)).length = 9 := by simpa using HC.out
            have HCS := Lib.hid hcs
            have hcl' : ∀ j : Nat, j < 9 - n → S.testBit j = true → 0 ≤ cl (c.set m (k : Int)) j ∧ cl (c.set m (k : Int)) j ≤ j := fun j hj hSj => by
              have := HM8.out; have := HN.out
              rw [cl_set HC.out (by omega) _ (by omega)]
              split
              · omega
              · exact HCL0.out j (by omega) hSj
            have HCL' := Lib.hid hcl'
            have hc8' : ∀ j : Nat, j < 9 → cl (c.set m (k : Int)) j ≤ 8 := fun j hj => by
              rw [cl_set HC.out (by omega) _ (by omega)]
              split
              · omega
              · exact HC8.out j hj
            have HC8' := Lib.hid hc8'
            clear hcl' hc8' hcs
            obtain hkm | hkm : k < m ∨ k = m := by omega
            case' inl => have h1 : (k : Int) < (m : Int) := by omega
            case' inl => have h2 := hsk2 hkm
            case' inr => have h1 : ¬ (k : Int) < (m : Int) := by omega
            all_goals
              clear hkm hsk2
              go_wp2_with (at_builtin; refine appIL (ys := c) (base := wr.heap.size) rfl _ _ rfl (v := .slice (some ⟨wr.heap.size, 0, none⟩) 0 0) rfl (IntsO.empty wr rfl) (by rw [HC.out]; rfl) (HI.out.below bel) (by rw [HC.out]; simp) (by simp) ?_; intro A' c' w5 o5 hg5 hB6; rw [List.nil_append, HC.out] at o5 ⊢; obtain ⟨g, cur, -, rfl, hgb, kg, hcm, hset⟩ := o5.open_ (k := m) (by rw [HC.out]; omega); have qg := (kg.cell m).trans hcm; have rg := kg.frozen; have lg := kg.lt; have HSET := Lib.hid (hset k); have k5 := Blk.below (g := w.heap.size) (w := wr.alloc (.cells #[] tI)) (k0.alloc _) hB6 l0; have hB5 : Below w.heap.size w w5 := Below.trans bel (hB6.mono (by omega)); have k6 := k5.far (p := ⟨g, m, none⟩) (by simp only; omega) (.int .i64 k); have q6 := k6.cell; clear hset o5 kg hcm q0 hg5)
              have hB7 : Below w.heap.size w (w5.setCell ⟨g, m, none⟩ (.int .i64 k)) := hB5.setCell (p := ⟨g, m, none⟩) (by simp only; omega) _
              have hz7 := hB7.size
              have v7 := HSET.out.readsI.2
              have ih1 := IH.out (c.set m (k : Int)) _ c' _ _ _ (by have := HN.out; omega) HCS.out HCL'.out HC8'.out (hV.out.below hB7) (HTT.out.below hB7) v7
              rw [E1.out] at ih1
              refine ih1.mono ?_
              clear ih1 v7 q6 k5 qg rg
              rintro e w8 ⟨r, rfl, o8, hB8⟩
              have O8 := Lib.hid o8
              have k8 := k6.next hB8
              have hBn := bgo hB7 hB8
              clear o8 hB8 k6 hB7 hB5 hB6
              cases hem : (seek a S n (c.set m (k : Int))).isEmpty
              · have hne : seekAt a S n c k ≠ [] := by rw [HX.out]; intro h; rw [h] at hem; cases hem
                obtain ⟨y, y1, y2⟩ := flatMap_first (N := 9 - n) (by have := HM8.out; have := HN.out; omega) HP.out hne
                rw [HX.out] at y1
                have E2 : Hid ((seek a S (n + 1) c).isEmpty = false ∧ firstI (seek a S (n + 1) c) = firstI (seek a S n (c.set m (k : Int)))) := by
                  refine ⟨?_, ?_⟩
                  · rw [E.out]
                    cases h : (List.range (9 - n)).flatMap (seekAt a S n c) with
                    | nil => rw [h] at y2; cases y2
                    | cons _ _ => rfl
                  · unfold firstI; rw [E.out, y1, y2]
                clear hem hne y1 y2
                go_wp2_with fail
                go_ret2
                exact ⟨r, by rw [E2.out.1]; rfl, by rw [E2.out.2]; exact O8.out.lower hz7, hBn⟩
              · have HX2 : Hid (seekAt a S n c k = []) := by show _ = _; rw [HX.out]; simpa using hem
                clear hem
                go_wp2_with fail
                go_round
                case rel => exact ⟨k + 1, by omega, by go_num, by show _ = _; rw [HNX.out, HX2.out], k8, hBn⟩
                case measure => simp [intOf]; omega
        · obtain rfl : k = m + 1 := by omega
          have E2 : Hid (seek a S (n + 1) c = []) := by show _ = _; rw [E.out, show 9 - n = m + 1 from by have := HM8.out; have := HN.out; omega]; exact HP.out
          go_wp2_with fail
          go_ret2
          exact ⟨_, by rw [E2.out]; rfl, by rw [E2.out]; exact IntsO.lower (IntsO.empty _ rfl) (by omega), bel⟩

--@
end Go.Proofs.YtlmjjflalmegfaaGreat
