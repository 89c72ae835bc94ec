/- Contracts: the spec's list of all cases. -/
import Derived.Test.YtmjgcdolnkdfoaaMCasesOf
import Derived.Test.YtmjgcdolnkdfoaaDrawI
import Derived.Test.YtmjgcdolnkdfoaaMEntS
import Derived.Test.YtmjgcdolnkdfoaaPar
import Derived.Test.YtmjgcdolnkdfoaaApp
import Derived.BigQuiet
import Derived.Deep.QuietTactic
import Derived.Test.YtmjgcdolnkdfoaaSlInts
set_option linter.unusedSimpArgs false
set_option linter.unusedVariables false
namespace Go.Proofs.Ytmjgcdolnkdfoaa
open Go Go.RowKit Go.Proofs
attribute [local go_sem ↓] Go.wp_at_zero Go.wp_at_succ

--@ spec.l5Cases
/-- the list after k choices -/
def outAt (a : Asn) (S n : Nat) (c : List Int) (xss : List (List Int)) (k : Nat) : List (List Int) := xss ++ (List.range k).flatMap (seekAt a S n c)
section
variable {a : Asn} {S n : Nat} {c : List Int} {xss : List (List Int)} {k N : Nat}
theorem outAt_zero : outAt a S n c xss 0 = xss := by simp [outAt]
theorem outAt_succ : outAt a S n c xss (k + 1) = outAt a S n c xss k ++ seekAt a S n c k := by
  unfold outAt; rw [List.range_succ, List.flatMap_append]; simp
theorem outAt_len (hk : k < N) : (outAt a S n c xss k).length + (seekAt a S n c k).length ≤ xss.length + ((List.range N).flatMap (seekAt a S n c)).length := by
  obtain ⟨m, rfl⟩ : ∃ m, N = k + (m + 1) := ⟨N - k - 1, by omega⟩
  unfold outAt
  rw [List.range_add, List.range_succ_eq_map, List.map_cons, List.flatMap_append, List.flatMap_cons, Nat.add_zero]
  simp only [List.length_append]
  omega
end
set_option maxRecDepth 100000 in
set_option maxHeartbeats 6400000 in
theorem c_spec_l5Cases {a : Asn} {S lo hi lo2 hi2 base : Nat} {A1 A2 : Option Addr} {d1 d2 : Nat} (T : Option Addr) (tc : Nat) (hv : a.valid = true) (hhi : hi ≤ base) (hhi2 : hi2 ≤ base) :
    ∀ (n : Nat) (c : List Int) (B : Option Addr) (cc bI : Nat) (w : World) (vs : List Value) (xss : List (List Int)) (O : Option Addr) (oc : Nat), n ≤ 8 → c.length = 9 → (∀ j : Nat, j < 9 - n → S.testBit j = true → 0 ≤ cl c j ∧ cl c j ≤ j) → (∀ j : Nat, j < 9 → cl c j ≤ 8) →
      AsnV w lo hi (.agg #[.slice A1 a.facts.length d1, .slice A2 a.atoms.length d2]) a → BoolsV w lo2 hi2 T (flagsOf S) → IntsO w bI (.slice B 9 cc) c → SSO w base (.slice O xss.length oc) vs xss → base ≤ w.heap.size → xss.length + (seek a S n c).length ≤ 400000 →
      Calls Try.prog 200 #[.slice O xss.length oc, .agg #[.slice A1 a.facts.length d1, .slice A2 a.atoms.length d2], .slice T 9 tc, .slice B 9 cc, .int .i64 ((9 - n : Nat) : Int)] w fun e w' =>
        ∃ r vs', e = .returned r ∧ SSO w' base r vs' (xss ++ seek a S n c) ∧ KX w w' ∧ Below base w w' := by
  intro n
  induction n with
  | zero =>
    intro c B cc bI w vs xss O oc hn hc _ hc8 hA hT hI hSO hbw hlen
    have HO := Lib.hid (Asn.valid_ok hv)
    have hV := Lib.hid hA
    have HC := Lib.hid hc
    have HII := Lib.hid hI
    have HSO := Lib.hid hSO
    have HI : Hid (IntsV w bI w.heap.size B c) := hI.readsI.2
    have HCL : Hid (∀ x ∈ a.atoms, cl c x.a ≤ 8) := fun x hx => by
      have := (HO.out.2 x hx).1
      obtain ⟨t, et⟩ := Int.eq_ofNat_of_zero_le this.1
      rw [et]; exact hc8 t (by omega)
    obtain ⟨B1, e1, B2, e2, he, h1, h2⟩ := hA
    injection he with he; injection he with he; injection he with he1 he2; injection he2 with he2 he3
    injection he1 with he1 _ he4; injection he2 with he2 _ he5
    subst he1 he4 he2 he5
    have H1 := Lib.hid h1
    have H2 := Lib.hid h2
    have HLN := Lib.hid hlen
    clear h1 h2 hc hc8 hT hI he3 hSO hlen
    go_enter Try.func200, Try.ntmps200
    go_wp2_with fail
    refine (c_fits9 A1 B d1 cc a.facts c _ (H1.out.below bel) (HI.out.below bel) HC.out HO.out.1).mono ?_
    rintro e w1 ⟨rfl, rfl⟩
    cases hf : fitsS c a.facts
    · have E := Lib.hid (seek_cut (a := a) (S := S) 0 (c := c) (by rw [hf]; rfl))
      clear hf
      go_wp2_with fail
      go_ret
      exact ⟨_, vs, rfl, by rw [E.out, List.append_nil]; exact HSO.out.below bel, KX.of bel, btoB (w := w) bel hbw⟩
    have HF := Lib.hid hf
    clear hf
    go_wp2_with fail
    refine (c_early9 A2 B d2 cc a.atoms c _ (H2.out.below bel) (HI.out.below bel) HC.out HO.out.2 HCL.out).mono ?_
    rintro e w2 ⟨rfl, hB2⟩
    have hB : Below w.heap.size w w2 := bgo (w := w) bel hB2
    have k0 : Blk w2 w.heap.size tAs #[.slice A1 a.facts.length d1, .slice A2 a.atoms.length d2] := Blk.next blks hB2
    have q0 := k0.cell
    have l0 := k0.lt
    clear hB2
    cases he : earlyF c [] a.atoms
    · have E := Lib.hid (seek_cut (a := a) (S := S) 0 (c := c) (by rw [HF.out, he]; rfl))
      clear he
      go_wp2_with fail
      go_ret
      exact ⟨_, vs, rfl, by rw [E.out, List.append_nil]; exact HSO.out.below hB, KX.of hB, btoB hB hbw⟩
    have E0 := Lib.hid (seek_leaf (a := a) (S := S) (c := c) (by rw [HF.out, he]; rfl))
    clear he
    go_wp2_with fail
    refine (c_filled9 A2 B d2 cc a.atoms c _ (H2.out.below hB) (HI.out.below hB) HC.out HO.out.2).mono ?_
    rintro e w3 ⟨r3, rfl, o3, hB3⟩
    obtain ⟨R3, e3, rfl, v3⟩ := o3.reads
    have hBB : Below w.heap.size w w3 := bgo hB hB3
    go_wp2_with fail
    refine (c_spec_l5Apart R3 e3 (filledL a.atoms c) _ v3).mono ?_
    rintro e w4 ⟨rfl, hB4⟩
    have hB5 : Below w.heap.size w w4 := bgo hBB hB4
    have hz := hB5.size
    clear o3 v3 hB3 hB4 hBB q0 l0 k0 hB
    cases hap : apartF [] (filledL a.atoms c)
    · have E := Lib.hid (show seek a S 0 c = [] by rw [E0.out, hap]; rfl)
      clear hap
      go_wp2_with fail
      go_ret
      exact ⟨_, vs, rfl, by rw [E.out, List.append_nil]; exact HSO.out.below hB5, KX.of hB5, btoB hB5 hbw⟩
    · have E := Lib.hid (show seek a S 0 c = [c] by rw [E0.out, hap]; rfl)
      clear hap
      have hl1 : xss.length + 1 ≤ 1049600 := by have := HLN.out; rw [E.out] at this; simp at this; omega
      go_wp2_with (first
        | (at_builtin; refine appIL (ys := c) (base := w4.heap.size) rfl _ _ rfl (v := .slice (some ⟨w4.heap.size, 0, none⟩) 0 0) rfl (IntsO.empty w4 rfl) (by rw [HC.out]; rfl) (HI.out.below bel) (by rw [HC.out]; simp) (by simp) ?_; intro A' c' w5 o5 hg5 hB6; rw [List.nil_append, HC.out] at o5 ⊢; have hB7 : Below w.heap.size w w5 := Below.trans bel (hB6.mono hz); have o5l := o5.lower hz)
        | (at_builtin; refine appSS (w0 := w) (xss := xss) (vs := vs) (base := base) rfl _ _ rfl rfl HSO.out bel hbw (ys := c) (IntsO.below o5l bel) (Blk.new w5 tIS _) rfl hl1 ?_; intro A2' c2' w6 hS6 hg6 hB8))
      go_ret
      exact ⟨_, _, rfl, by rw [E.out]; simpa using hS6, KX.trans (KX.of (w := w) bel) (KX.app (own_below HSO.out.row bel) hg6), Below.trans (btoB (w := w) bel hbw) hB8⟩
  | succ n ih =>
    intro c B cc bI w vs xss O oc hn hc hcl hc8 hA hT hI hSO hbw hlen
    have HO := Lib.hid (Asn.valid_ok hv)
    have hV := Lib.hid hA
    have HC := Lib.hid hc
    have HTT := Lib.hid hT
    have HC8 := Lib.hid hc8
    have HCL0 := Lib.hid hcl
    have IH := Lib.hid ih
    have HLN := Lib.hid hlen
    have HSO := Lib.hid hSO
    have HCL : Hid (∀ x ∈ a.atoms, cl c x.a ≤ 8) := fun x hx => by
      have := (HO.out.2 x hx).1
      obtain ⟨t, et⟩ := Int.eq_ofNat_of_zero_le this.1
      rw [et]; exact hc8 t (by omega)
    obtain ⟨B1, e1, B2, e2, he, h1, h2⟩ := hA
    injection he with he; injection he with he; injection he with he1 he2; injection he2 with he2 he3
    injection he1 with he1 _ he4; injection he2 with he2 _ he5
    subst he1 he4 he2 he5
    have H1 := Lib.hid h1
    have H2 := Lib.hid h2
    obtain ⟨tb, to, rfl, ltb⟩ := flags_addr hT
    obtain ⟨pb, ob, rfl, lpb⟩ := hI.readsI.2.blt (k := 0) (by omega)
    have HII := Lib.hid hI
    have HI : Hid (IntsV w bI w.heap.size (some ⟨pb, ob, none⟩) c) := hI.readsI.2
    obtain ⟨m, hm8⟩ : ∃ m, m = 8 - n := ⟨_, rfl⟩
    have E1 : Hid (((9 - n : Nat) : Int) = (m : Int) + 1) := by show _ = _; omega
    rw [show 9 - (n + 1) = m from by omega] at HCL0 ⊢
    have HM8 := Lib.hid hm8
    have HN := Lib.hid hn
    have hmg : ¬ (8 < (m : Int)) := by omega
    have hmi9 : (m : Int) < 9 := by omega
    clear h1 h2 hc hc8 hcl hT hI he3 ih hm8 hn hSO hlen
    go_enter Try.func200, Try.ntmps200
    go_wp2_with fail
    refine (c_fits9 A1 _ d1 cc a.facts c _ (H1.out.below bel) (HI.out.below bel) HC.out HO.out.1).mono ?_
    rintro e w1 ⟨rfl, rfl⟩
    cases hf : fitsS c a.facts
    · have E := Lib.hid (seek_cut (a := a) (S := S) (n + 1) (c := c) (by rw [hf]; rfl))
      clear hf
      go_wp2_with fail
      go_ret
      exact ⟨_, vs, rfl, by rw [E.out, List.append_nil]; exact HSO.out.below bel, KX.of bel, btoB (w := w) bel hbw⟩
    have HF := Lib.hid hf
    clear hf
    go_wp2_with fail
    refine (c_early9 A2 _ d2 cc a.atoms c _ (H2.out.below bel) (HI.out.below bel) HC.out HO.out.2 HCL.out).mono ?_
    rintro e w2 ⟨rfl, hB2⟩
    have hB : Below w.heap.size w w2 := bgo (w := w) bel hB2
    have k0 : Blk w2 w.heap.size tAs #[.slice A1 a.facts.length d1, .slice A2 a.atoms.length d2] := Blk.next blks hB2
    have q0 := k0.cell
    have l0 := k0.lt
    clear hB2
    cases he : earlyF c [] a.atoms
    · have E := Lib.hid (seek_cut (a := a) (S := S) (n + 1) (c := c) (by rw [HF.out, he]; rfl))
      clear he
      go_wp2_with fail
      go_ret
      exact ⟨_, vs, rfl, by rw [E.out, List.append_nil]; exact HSO.out.below hB, KX.of hB, btoB hB hbw⟩
    have E0 := Lib.hid (seek_step (a := a) (S := S) (n := n) (c := c) (by rw [HF.out, he]; rfl))
    clear he
    have qt := flags_at (HTT.out.below hB) (m := m) (by omega)
    have hz0 := hB.size
    cases ht : S.testBit m
    · rw [ht] at qt
      have E : Hid (seek a S (n + 1) c = seek a S n c) := by show _ = _; rw [E0.out, ← HM8.out, ht]; rfl
      have ih1 := IH.out c _ cc bI w2 vs xss O oc (by have := HN.out; omega) HC.out (fun j hj hS => by
        by_cases e : j = m
        · subst e; rw [ht] at hS; cases hS
        · exact HCL0.out j (by have := HM8.out; have := HN.out; omega) hS) HC8.out (hV.out.below hB) (HTT.out.below hB) (HII.out.below hB) (HSO.out.below hB) (by omega) (by rw [← E.out]; exact HLN.out)
      rw [E1.out] at ih1
      have IH1 := Lib.hid ih1
      clear ih1 ht
      go_wp2_with fail
      refine IH1.out.mono ?_
      rintro e w3 ⟨r, vs3, rfl, h3, hK3, hB3⟩
      have H3 := Lib.hid h3
      have HK3 := Lib.hid hK3
      clear h3 hK3
      go_wp2_with fail
      go_ret
      exact ⟨r, vs3, rfl, by rw [E.out]; exact H3.out, KX.trans (KX.of hB) HK3.out, Below.trans (btoB hB hbw) hB3⟩
    · rw [ht] at qt
      have E : Hid (seek a S (n + 1) c = (List.range (9 - n)).flatMap (seekAt a S n c)) := by show _ = _; rw [E0.out, ← HM8.out, ht]; rfl
      clear ht
      go_wp2_with fail
      go_loopw [0, 11] (fun q i wr => ∃ (k : Nat) (O' : Option Addr) (oc' : Nat) (vs' : List Value), k ≤ m + 1 ∧ i = .int .i64 k ∧ q = .slice O' (outAt a S n c xss k).length oc' ∧ Hid (SSO wr base (.slice O' (outAt a S n c xss k).length oc') vs' (outAt a S n c xss k)) ∧ Hid (KX w wr) ∧ Blk wr w.heap.size tAs #[.slice A1 a.facts.length d1, .slice A2 a.atoms.length d2] ∧ Below base w wr) (fun _ i _ => 9 - (intOf i).toNat)
      case atStart => exact ⟨0, O, oc, vs, Nat.zero_le _, rfl, by rw [outAt_zero], by show SSO _ _ _ _ _; rw [outAt_zero]; exact HSO.out.below hB, KX.of hB, k0, btoB hB hbw⟩
      case round =>
        clear k0 hB q0 l0 qt hz0
        obtain ⟨k, O', oc', vs', hk, rfl, rfl, HS, HK, k0, hB⟩ := hrel
        have q0 := k0.cell
        have l0 := k0.lt
        have hz := hB.size
        have HIR : Hid (IntsV wr bI wr.heap.size (some ⟨pb, ob, none⟩) c) := (HK.out.ints HII.out).readsI.2
        by_cases hlt : k ≤ m
        · have hki : (k : Int) ≤ (m : Int) := by omega
          have hk9 : (k : Int) < 9 := by omega
          have hkc := ints_cl HIR.out (m := k) (by rw [HC.out]; omega)
          have HNX := Lib.hid (outAt_succ (a := a) (S := S) (n := n) (c := c) (xss := xss) (k := k))
          by_cases hskip : k < m ∧ cl c k ≠ k
          · have HX : Hid (seekAt a S n c k = []) := by show _ = _; rw [seekAt, if_pos (by rw [← HM8.out]; exact hskip)]
            have HX2 : Hid (outAt a S n c xss (k + 1) = outAt a S n c xss k) := by show _ = _; rw [HNX.out, HX.out, List.append_nil]
            have hkm : (k : Int) < (m : Int) := by omega
            have hne : (cl c k != (k : Int)) = true := by simpa using hskip.2
            clear hskip hki hlt
            go_wp2_with fail
            go_round
            case rel => exact ⟨k + 1, O', oc', vs', by omega, by go_num, by rw [HX2.out], by show SSO _ _ _ _ _; rw [HX2.out]; exact HS.out, HK, k0, hB⟩
            case measure => simp [intOf]; omega
          · have hsk2 : k < m → (cl c k != (k : Int)) = false := fun h => by
              cases Int.decEq (cl c k) k with
              | isTrue h => simp [h]
              | isFalse h' => exact absurd ⟨h, h'⟩ hskip
            have HX : Hid (seekAt a S n c k = seek a S n (c.set m k)) := by
              show _ = _
              rw [seekAt, ← HM8.out, if_neg hskip]
            clear hskip
            have hcs : (c.set m (k : Int)).length = 9 := by simpa using HC.out
            have HCS := Lib.hid hcs
            have hcl' : ∀ j : Nat, j < 9 - n → S.testBit j = true → 0 ≤ cl (c.set m (k : Int)) j ∧ cl (c.set m (k : Int)) j ≤ j := fun j hj hSj => by
              have := HM8.out; have := HN.out
              rw [cl_set HC.out (by omega) _ (by omega)]
              split
              · omega
              · exact HCL0.out j (by omega) hSj
            have HCL' := Lib.hid hcl'
            have hc8' : ∀ j : Nat, j < 9 → cl (c.set m (k : Int)) j ≤ 8 := fun j hj => by
              rw [cl_set HC.out (by omega) _ (by omega)]
              split
              · omega
              · exact HC8.out j hj
            have HC8' := Lib.hid hc8'
            clear hcl' hc8' hcs
            obtain hkm | hkm : k < m ∨ k = m := by omega
            case' inl => have h1 : (k : Int) < (m : Int) := by omega
            case' inl => have h2 := hsk2 hkm
            case' inr => have h1 : ¬ (k : Int) < (m : Int) := by omega
            all_goals
              clear hkm hsk2
              go_wp2_with (at_builtin; refine appIL (ys := c) (base := wr.heap.size) rfl _ _ rfl (v := .slice (some ⟨wr.heap.size, 0, none⟩) 0 0) rfl (IntsO.empty wr rfl) (by rw [HC.out]; rfl) (HIR.out.below bel) (by rw [HC.out]; simp) (by simp) ?_; intro A' c' w5 o5 hg5 hB6; rw [List.nil_append, HC.out] at o5 ⊢; obtain ⟨g, cur, -, rfl, hgb, kg, hcm, hset⟩ := o5.open_ (k := m) (by rw [HC.out]; omega); have qg := (kg.cell m).trans hcm; have rg := kg.frozen; have lg := kg.lt; have HSET := Lib.hid (hset k); have k5 := Blk.below (g := w.heap.size) (w := wr.alloc (.cells #[] tI)) (k0.alloc _) hB6 l0; have hB5 : Below wr.heap.size wr w5 := Below.trans bel hB6; have k6 := k5.far (p := ⟨g, m, none⟩) (by simp only; omega) (.int .i64 k); have q6 := k6.cell; clear hset o5 kg hcm q0 hg5)
              have hW : Below wr.heap.size wr (w5.setCell ⟨g, m, none⟩ (.int .i64 k)) := hB5.setCell (p := ⟨g, m, none⟩) hgb _
              have hzW := hW.size
              have hB7 : Below base w (w5.setCell ⟨g, m, none⟩ (.int .i64 k)) := Below.trans hB (btoB hW (by omega))
              have HK7 : Hid (KX w (w5.setCell ⟨g, m, none⟩ (.int .i64 k))) := KX.trans HK.out (KX.of hW)
              have hll : (outAt a S n c xss k).length + (seek a S n (c.set m (k : Int))).length ≤ 400000 := by
                have h1 := HLN.out
                have h2 := outAt_len (a := a) (S := S) (n := n) (c := c) (xss := xss) (k := k) (N := 9 - n) (by have := HM8.out; have := HN.out; omega)
                rw [E.out] at h1
                rw [HX.out] at h2
                omega
              have ih1 := IH.out (c.set m (k : Int)) _ c' wr.heap.size _ vs' (outAt a S n c xss k) O' oc' (by have := HN.out; omega) HCS.out HCL'.out HC8'.out (hV.out.keepB hB7 hhi) (HTT.out.keepB hB7 hhi2) HSET.out (HS.out.below hW) (by omega) hll
              rw [E1.out] at ih1
              refine ih1.mono ?_
              clear ih1 q6 k5 qg rg hll
              rintro e w8 ⟨r, vs8, rfl, h8, hK8, hB8⟩
              obtain ⟨O8, d8, rfl⟩ := h8.form
              have HE : outAt a S n c xss k ++ seek a S n (c.set m (k : Int)) = outAt a S n c xss (k + 1) := by rw [HNX.out, HX.out]
              rw [HE] at h8 ⊢
              have H8 := Lib.hid h8
              have k8 := hK8.blk k6 (by decide)
              have HK8 := Lib.hid (KX.trans HK7.out hK8)
              have hBn := Below.trans hB7 hB8
              clear h8 hB8 hK8 k6 hB7 hB5 hB6 hW HE
              go_wp2_with fail
              go_round
              case rel => exact ⟨k + 1, O8, d8, vs8, by omega, by go_num, rfl, H8, HK8, k8, hBn⟩
              case measure => simp [intOf]; omega
        · obtain rfl : k = m + 1 := by omega
          have E2 : Hid (xss ++ seek a S (n + 1) c = outAt a S n c xss (m + 1)) := by show _ = _; rw [E.out, show 9 - n = m + 1 from by have := HM8.out; have := HN.out; omega]; rfl
          go_wp2_with fail
          go_ret
          exact ⟨_, vs', rfl, by rw [E2.out]; exact HS.out, HK.out, hB⟩

--@ spec.l5All
set_option maxRecDepth 100000 in
set_option maxHeartbeats 3200000 in
theorem c_spec_l5All {a : Asn} {S lo hi lo2 hi2 : Nat} {A1 A2 : Option Addr} {d1 d2 : Nat} (T : Option Addr) (tc : Nat) (w : World) (hv : a.valid = true) (h : AsnV w lo hi (.agg #[.slice A1 a.facts.length d1, .slice A2 a.atoms.length d2]) a) (hT : BoolsV w lo2 hi2 T (flagsOf S)) (hhi : hi ≤ w.heap.size) (hhi2 : hi2 ≤ w.heap.size) (hlen : (seek a S 8 opened).length ≤ 400000) :
    Calls Try.prog 112 #[.agg #[.slice A1 a.facts.length d1, .slice A2 a.atoms.length d2], .slice T 9 tc] w fun e w' => ∃ r, e = .returned r ∧ IntSSO w' w.heap.size r (seek a S 8 opened) ∧ Below w.heap.size w w' := by
  have hV := Lib.hid h
  have HTT := Lib.hid hT
  have HLN := Lib.hid hlen
  have HOP := Lib.hid openedB
  have HVV := Lib.hid hv
  clear h hT hlen hv
  go_enter Try.func112, Try.ntmps112
  have k0 := Blk.new w tAs #[.slice A1 a.facts.length d1, .slice A2 a.atoms.length d2]
  go_wp2_with fail
  refine wp_region_noPanic ?_
  refine wp_region_held_drew (S := (fun w' => ∀ i, w'.cell? ⟨w.heap.size, i, none⟩ = #[.slice A1 a.facts.length d1, .slice A2 a.atoms.length d2][i]?)) (by kernel_rfl) (Blk.cell blks) (fun hHeld => ?_)
  refine wpAnyH_take (i := 1) (v := ?_) rfl (by kernel_rfl) (by kernel_rfl) (by kernel_rfl) (fun _ _ _ h => h) (Or.inl ⟨by rfl, fun w hSw => ?_⟩) hHeld ?_
  rotate_left
  · ((try dsimp only at hSw); go_split_ands; go_simp; (try with_reducible rfl))
  try simp only [Act.put, List.getElem_toArray, List.getElem_cons_zero, List.getElem_cons_succ, List.setIfInBounds_toArray, List.set_cons_zero, List.set_cons_succ]
  refine wpAnyH_take (i := 2) (v := ?_) rfl (by kernel_rfl) (by kernel_rfl) (by kernel_rfl) (fun _ _ _ h => h) (Or.inl ⟨by rfl, fun w hSw => ?_⟩) hHeld ?_
  rotate_left
  · ((try dsimp only at hSw); go_split_ands; go_simp; (try with_reducible rfl))
  try simp only [Act.put, List.getElem_toArray, List.getElem_cons_zero, List.getElem_cons_succ, List.setIfInBounds_toArray, List.set_cons_zero, List.set_cons_succ]
  obtain ⟨X, hX⟩ : ∃ X, X = (w.alloc (.cells #[.slice A1 a.facts.length d1, .slice A2 a.atoms.length d2] tAs)).drew := ⟨_, rfl⟩
  have hBX : Below w.heap.size w X := by rw [hX]; exact bel
  have kX : Blk X w.heap.size tAs #[.slice A1 a.facts.length d1, .slice A2 a.atoms.length d2] := by rw [hX]; exact blks
  rw [← hX] at hHeld ⊢
  clear hX k0
  have hzX := hBX.size
  refine wpAnyH_ready (rs := [0, 3]) (by kernel_rfl) (by simp) ?_
  refine AllReadyH.cons rfl (fun K hK => ?_) (AllReadyH.cons rfl (fun K hK => ?_) AllReadyH.nil)
  · go_simp
    refine hK.out _ _ (Blk.cell blks) (fun hHeldN => ?_)
    clear hHeld hK K
    have hHeld := hHeldN
    clear hHeldN
    try simp only [Act.put, List.getElem_toArray, List.getElem_cons_zero, List.getElem_cons_succ, List.setIfInBounds_toArray, List.set_cons_zero, List.set_cons_succ]
    refine wpAnyH_ready (rs := [3]) (by kernel_rfl) (by simp) ?_
    refine AllReadyH.cons rfl (fun K hK => ?_) AllReadyH.nil
    try simp only [List.getElem_toArray, List.getElem_cons_zero, List.getElem_cons_succ]
    (go_simp; refine (c_spec_l5Open _).mono ?_; rintro e w4 ⟨r4, rfl, o4, hB4⟩; obtain ⟨Cb, cc, rfl, -⟩ := o4.reads; have hB := bgo (w := w) bel hB4; have o0 := ((SSO.empty X rfl).below hB4).lower (base' := w.heap.size) (by omega); have hz4 := hB.size; replace kX := Blk.next (g := w.heap.size) blks hB4)
    refine hK.out _ _ (Blk.cell blks) (fun hHeldN => ?_)
    clear hHeld hK K
    have hHeld := hHeldN
    clear hHeldN
    try simp only [Act.put, List.getElem_toArray, List.getElem_cons_zero, List.getElem_cons_succ, List.setIfInBounds_toArray, List.set_cons_zero, List.set_cons_succ]
    refine wpAnyH_ready (rs := [4]) (by kernel_rfl) (by simp) ?_
    refine AllReadyH.cons rfl (fun K hK => ?_) AllReadyH.nil
    try simp only [List.getElem_toArray, List.getElem_cons_zero, List.getElem_cons_succ]
    (go_simp; refine (c_spec_l5Cases (base := w.heap.size) T tc HVV.out hhi hhi2 8 opened Cb cc _ _ [] [] _ _ (by omega) rfl (HOP.out.2 _) HOP.out.1 (hV.out.below bel) (HTT.out.below bel) o4 o0 hz4 (by simpa using HLN.out)).mono ?_; rintro e w5 ⟨r5, vs5, rfl, o5, hK5, hB5⟩; replace kX := hK5.blk kX (by decide); have hBB := Below.trans (btoB hB (Nat.le_refl _)) hB5)
    refine hK.out _ _ (Blk.cell blks) (fun hHeldN => ?_)
    clear hHeld hK K
    have hHeld := hHeldN
    clear hHeldN
    try simp only [Act.put, List.getElem_toArray, List.getElem_cons_zero, List.getElem_cons_succ, List.setIfInBounds_toArray, List.set_cons_zero, List.set_cons_succ]
    refine wpAnyH_take (i := 5) (v := ?_) rfl (by kernel_rfl) (by kernel_rfl) (by kernel_rfl) (fun _ _ _ h => h) (Or.inl ⟨by rfl, fun w hSw => ?_⟩) hHeld ?_
    rotate_left
    · ((try dsimp only at hSw); go_split_ands; go_simp; (try with_reducible rfl))
    try simp only [Act.put, List.getElem_toArray, List.getElem_cons_zero, List.getElem_cons_succ, List.setIfInBounds_toArray, List.set_cons_zero, List.set_cons_succ]
    refine wpAnyH_done (by kernel_rfl) ?_ _
    refine NoPanic.normal ?_
    go_wp2_with fail
    go_ret
    exact ⟨r5, rfl, ⟨vs5, by simpa using o5⟩, hBB⟩
  · go_simp
    refine (c_spec_l5Open _).mono ?_
    rintro e w4 ⟨r4, rfl, o4, hB4⟩
    obtain ⟨Cb, cc, rfl, -⟩ := o4.reads
    have hB := bgo (w := w) bel hB4
    have hz4 := hB.size
    replace kX := Blk.next (g := w.heap.size) blks hB4
    refine hK.out _ _ (Blk.cell blks) (fun hHeldN => ?_)
    clear hHeld hK K
    have hHeld := hHeldN
    clear hHeldN
    try simp only [Act.put, List.getElem_toArray, List.getElem_cons_zero, List.getElem_cons_succ, List.setIfInBounds_toArray, List.set_cons_zero, List.set_cons_succ]
    refine wpAnyH_ready (rs := [0]) (by kernel_rfl) (by simp) ?_
    refine AllReadyH.cons rfl (fun K hK => ?_) AllReadyH.nil
    try simp only [List.getElem_toArray, List.getElem_cons_zero, List.getElem_cons_succ]
    (go_simp; have o0 := (SSO.empty w4 rfl).lower (base' := w.heap.size) (by omega); have o4' := IntsO.below o4 (w' := w4.alloc (.cells #[] tIS)) bel)
    refine hK.out _ _ (Blk.cell blks) (fun hHeldN => ?_)
    clear hHeld hK K
    have hHeld := hHeldN
    clear hHeldN
    try simp only [Act.put, List.getElem_toArray, List.getElem_cons_zero, List.getElem_cons_succ, List.setIfInBounds_toArray, List.set_cons_zero, List.set_cons_succ]
    refine wpAnyH_ready (rs := [4]) (by kernel_rfl) (by simp) ?_
    refine AllReadyH.cons rfl (fun K hK => ?_) AllReadyH.nil
    try simp only [List.getElem_toArray, List.getElem_cons_zero, List.getElem_cons_succ]
    (go_simp; refine (c_spec_l5Cases (base := w.heap.size) T tc HVV.out hhi hhi2 8 opened Cb cc _ _ [] [] _ _ (by omega) rfl (HOP.out.2 _) HOP.out.1 (hV.out.below bel) (HTT.out.below bel) o4' o0 (by simp; omega) (by simpa using HLN.out)).mono ?_; rintro e w5 ⟨r5, vs5, rfl, o5, hK5, hB5⟩; replace kX := hK5.blk (kX.alloc _) (by decide); have hBB := Below.trans (btoB (w := w) bel (Nat.le_refl _)) hB5)
    refine hK.out _ _ (Blk.cell blks) (fun hHeldN => ?_)
    clear hHeld hK K
    have hHeld := hHeldN
    clear hHeldN
    try simp only [Act.put, List.getElem_toArray, List.getElem_cons_zero, List.getElem_cons_succ, List.setIfInBounds_toArray, List.set_cons_zero, List.set_cons_succ]
    refine wpAnyH_take (i := 5) (v := ?_) rfl (by kernel_rfl) (by kernel_rfl) (by kernel_rfl) (fun _ _ _ h => h) (Or.inl ⟨by rfl, fun w hSw => ?_⟩) hHeld ?_
    rotate_left
    · ((try dsimp only at hSw); go_split_ands; go_simp; (try with_reducible rfl))
    try simp only [Act.put, List.getElem_toArray, List.getElem_cons_zero, List.getElem_cons_succ, List.setIfInBounds_toArray, List.set_cons_zero, List.set_cons_succ]
    refine wpAnyH_done (by kernel_rfl) ?_ _
    refine NoPanic.normal ?_
    go_wp2_with fail
    go_ret
    exact ⟨r5, rfl, ⟨vs5, by simpa using o5⟩, hBB⟩

--@ spec.CasesOf
set_option maxRecDepth 100000 in
set_option maxHeartbeats 3200000 in
theorem c_spec_CasesOf {lo hi : Nat} (v : Value) (a : Asn) (w : World) (h : AsnV w lo hi v a) (hhi : hi ≤ w.heap.size) :
    Calls Try.prog 147 #[v] w fun e w' => ∃ r, e = .returned r ∧ IntSSR w' w.heap.size r (casesV a) ∧ Below w.heap.size w w' := by
  have hV := Lib.hid h
  obtain ⟨A1, c1, A2, c2, rfl, -, -⟩ := h
  go_enter Try.func147, Try.ntmps147
  go_wp2_with fail
  refine (c_spec_AssertionValid _ a _ (hV.out.below bel)).mono ?_
  rintro e w1 ⟨rfl, hB1⟩
  have k0 : Blk w1 w.heap.size tAs #[.slice A1 a.facts.length c1, .slice A2 a.atoms.length c2] := Blk.next blks hB1
  have hB : Below w.heap.size w w1 := bgo (w := w) bel hB1
  clear hB1
  have q0 := k0.cell
  have l0 := k0.lt
  have HTOT := Lib.hid (casesV_tot a)
  cases hv : a.valid
  · have E : Hid (casesV a = []) := by show _ = _; unfold casesV; rw [hv]; rfl
    go_wp2_with fail
    go_ret
    exact ⟨_, rfl, ⟨⟨[], by rw [E.out]; exact (SSO.empty w1 rfl).lower (by omega)⟩, HTOT.out⟩, bel⟩
  · have E : Hid (casesV a = cases a (caseS a 0)) := by show _ = _; unfold casesV; rw [if_pos hv]
    have HV := Lib.hid hv
    have HT := Lib.hid (termsL_ok hv)
    have HS := Lib.hid (seek_terms hv)
    have HLN : Hid ((seek a (tset (termsL a)) 8 opened).length ≤ 400000) := by
      show _ ≤ _
      rw [HS.out]
      exact Nat.le_trans (cases_len a _) (by omega)
    clear hv
    go_wp2_with fail
    refine wp_region_noPanic ?_
    refine wp_region_held_drew (S := (fun w' => ∀ i, w'.cell? ⟨w.heap.size, i, none⟩ = #[.slice A1 a.facts.length c1, .slice A2 a.atoms.length c2][i]?)) (by kernel_rfl) (Blk.cell blks) (fun hHeld => ?_)
    refine wpAnyH_take (i := 0) (v := ?_) rfl (by kernel_rfl) (by kernel_rfl) (by kernel_rfl) (fun _ _ _ h => h) (Or.inl ⟨by rfl, fun w hSw => ?_⟩) hHeld ?_
    rotate_left
    · ((try dsimp only at hSw); go_split_ands; go_simp; (try with_reducible rfl))
    try simp only [Act.put, List.getElem_toArray, List.getElem_cons_zero, List.getElem_cons_succ, List.setIfInBounds_toArray, List.set_cons_zero, List.set_cons_succ]
    refine wpAnyH_take (i := 1) (v := ?_) rfl (by kernel_rfl) (by kernel_rfl) (by kernel_rfl) (fun _ _ _ h => h) (Or.inl ⟨by rfl, fun w hSw => ?_⟩) hHeld ?_
    rotate_left
    · ((try dsimp only at hSw); go_split_ands; go_simp; (try with_reducible rfl))
    try simp only [Act.put, List.getElem_toArray, List.getElem_cons_zero, List.getElem_cons_succ, List.setIfInBounds_toArray, List.set_cons_zero, List.set_cons_succ]
    refine wpAnyH_ready (rs := [2]) (by kernel_rfl) (by simp) ?_
    refine AllReadyH.cons rfl (fun K hK => ?_) AllReadyH.nil
    try simp only [List.getElem_toArray, List.getElem_cons_zero, List.getElem_cons_succ]
    (go_simp; refine (c_spec_l3Terms _ a _ (hV.out.below bel) HT.out).mono ?_; rintro e w3 ⟨r3, rfl, o3, hB3⟩; obtain ⟨Tb, ct, rfl, fT⟩ := o3.reads; rw [flagsOf_length]; have hB' := bgo (w := w) bel hB3; have hz3 := hB'.size; replace k0 := Blk.next (g := w.heap.size) blks hB3)
    refine hK.out _ _ (Blk.cell blks) (fun hHeldN => ?_)
    clear hHeld hK K
    have hHeld := hHeldN
    clear hHeldN
    try simp only [Act.put, List.getElem_toArray, List.getElem_cons_zero, List.getElem_cons_succ, List.setIfInBounds_toArray, List.set_cons_zero, List.set_cons_succ]
    refine wpAnyH_ready (rs := [3]) (by kernel_rfl) (by simp) ?_
    refine AllReadyH.cons rfl (fun K hK => ?_) AllReadyH.nil
    try simp only [List.getElem_toArray, List.getElem_cons_zero, List.getElem_cons_succ]
    (go_simp; refine (c_spec_l5All Tb ct _ HV.out (hV.out.below bel) fT (by omega) (Nat.le_refl _) HLN.out).mono ?_; rintro e w5 ⟨r5, rfl, o5, hB5⟩; have hB6 := bgo (w := w) bel hB5; replace k0 := Blk.next (g := w.heap.size) blks hB5)
    refine hK.out _ _ (Blk.cell blks) (fun hHeldN => ?_)
    clear hHeld hK K
    have hHeld := hHeldN
    clear hHeldN
    try simp only [Act.put, List.getElem_toArray, List.getElem_cons_zero, List.getElem_cons_succ, List.setIfInBounds_toArray, List.set_cons_zero, List.set_cons_succ]
    refine wpAnyH_take (i := 4) (v := ?_) rfl (by kernel_rfl) (by kernel_rfl) (by kernel_rfl) (fun _ _ _ h => h) (Or.inl ⟨by rfl, fun w hSw => ?_⟩) hHeld ?_
    rotate_left
    · ((try dsimp only at hSw); go_split_ands; go_simp; (try with_reducible rfl))
    try simp only [Act.put, List.getElem_toArray, List.getElem_cons_zero, List.getElem_cons_succ, List.setIfInBounds_toArray, List.set_cons_zero, List.set_cons_succ]
    refine wpAnyH_done (by kernel_rfl) ?_ _
    refine NoPanic.normal ?_
    go_wp2_with fail
    go_ret
    refine ⟨r5, rfl, ⟨?_, HTOT.out⟩, hB6⟩
    rw [E.out, ← HS.out]
    exact o5.lower hz3
end Go.Proofs.Ytmjgcdolnkdfoaa

/- What the reader draws: the arguments of EntailsCase. -/
namespace Go.Proofs.Ytmjgcdolnkdfoaa
open Go Go.RowKit Go.Proofs
attribute [local go_sem ↓] Go.wp_at_zero Go.wp_at_succ

--@ spec.DrawEntailsCase
theorem BytesR.below {w w' : World} {A : Option Addr} {n c : Nat} (h : BytesR w A n c) (hb : Below w.heap.size w w') : BytesR w' A n c := by
  obtain ⟨bs, h1, h2, h3⟩ := h
  exact ⟨bs, h1, (h2.below hb).mono (Nat.le_refl _) hb.size, h3⟩
theorem AsnO.mk2 {p : Nat → Prop} {w w' : World} {base : Nat} {v : Value} {a : Asn} (h : AsnO w base v a) (hb : Mk p w w') (hp : ∀ g, base ≤ g → ¬ p g) : AsnO w' base v a := by
  obtain ⟨fv, av, e, h1, h2⟩ := h
  exact ⟨fv, av, e, h1.mk hb fun g hg => hp g (h1.1.lt g hg).1, h2.mk hb fun g hg => hp g (h2.1.lt g hg).1⟩
theorem IntSSO.fr {g : Nat} {a b : World} {base : Nat} {v : Value} {xss : List (List Int)} (h : IntSSO a base v xss) (hf : Fr g a b) (hg : g < base) : IntSSO b base v xss := by
  obtain ⟨vs, h⟩ := h
  exact ⟨vs, own_fr h.row hf hg, h.lim, h.len, fun k h1 h2 => (h.at_ k h1 h2).fr hf hg, h.apart⟩
theorem IntSSO.pickO {w : World} {base : Nat} {A : Option Addr} {c : Nat} {xss : List (List Int)} (h : IntSSO w base (.slice A xss.length c) xss) {k : Nat} (hk : k < xss.length) : ∃ b o B d, A = some ⟨b, o, none⟩ ∧ w.cell? ⟨b, o + k, none⟩ = some (.slice B xss[k].length d) ∧ IntsO w base (.slice B xss[k].length d) xss[k] := by
  obtain ⟨vs, h⟩ := h
  have hv : k < vs.length := by rw [h.len]; exact hk
  obtain ⟨b, o, B, d, e, -, hc, -⟩ := h.reads.2.at hk
  have hO := h.at_ k hv hk
  obtain ⟨A', c', e', h1⟩ := own_reads h.row h.lim
  injection e' with e1 e2 e3
  obtain ⟨b2, o2, u, e4, -, -, hu, hc2⟩ := h1.raw.at1 hv
  rw [← e1, e] at e4
  injection e4 with e4; injection e4 with e5 e6; subst e5; subst e6
  rw [hc] at hc2
  rw [List.getElem?_eq_getElem hv] at hu
  have hvk : vs[k] = .slice B xss[k].length d := by
    have e7 := Option.some.inj hc2
    have e8 := Option.some.inj hu
    rw [e8, ← e7]
  exact ⟨b, o, B, d, e, hc, by rw [← hvk]; exact hO⟩
set_option maxRecDepth 100000 in
set_option maxHeartbeats 6400000 in
theorem c_DrawEntailsCase (A : Option Addr) (n c : Nat) (w : World) (h : BytesR w A n c) :
    Calls Try.prog 32 #[.slice A n c] w fun e w' => ∃ r1 r2 a b C cs cc, e = .returned (.tuple #[r1, r2, .slice C cs.length cc]) ∧ AsnO w' w.heap.size r1 a ∧ AsnO w' w.heap.size r2 b ∧ IntsV w' 0 w'.heap.size C cs ∧ Below w.heap.size w w' := by
  have HR0 := Lib.hid (BytesR.below h (bbox (bbox (Below.refl w.heap.size w) (.cells #[.slice none 0 0, .slice none 0 0] tAs)) (.cells #[.slice none 0 0, .slice none 0 0] tAs)))
  clear h
  go_enter Try.func32, Try.ntmps32
  have k0 : Blk ((w.alloc (.cells #[.slice none 0 0, .slice none 0 0] tAs)).alloc (.cells #[.slice none 0 0, .slice none 0 0] tAs)) w.heap.size tAs #[.slice none 0 0, .slice none 0 0] := blks
  have k1 : Blk ((w.alloc (.cells #[.slice none 0 0, .slice none 0 0] tAs)).alloc (.cells #[.slice none 0 0, .slice none 0 0] tAs)) (w.heap.size + 1) tAs #[.slice none 0 0, .slice none 0 0] := blks
  have hB0 : Below w.heap.size w ((w.alloc (.cells #[.slice none 0 0, .slice none 0 0] tAs)).alloc (.cells #[.slice none 0 0, .slice none 0 0] tAs)) := bel
  have hs0 : w.heap.size + 2 ≤ ((w.alloc (.cells #[.slice none 0 0, .slice none 0 0] tAs)).alloc (.cells #[.slice none 0 0, .slice none 0 0] tAs)).heap.size := by simp
  go_wp2_with fail
  generalize ((w.alloc (.cells #[.slice none 0 0, .slice none 0 0] tAs)).alloc (.cells #[.slice none 0 0, .slice none 0 0] tAs)) = W0 at k0 k1 hB0 hs0 HR0 ⊢
  refine (c_DrawEntails A n c _ HR0.out).mono ?_
  rintro e w1 ⟨r1, r2, a, b, rfl, oa, ob, hB1⟩
  have hav := AsnO.reads oa
  have hbv := AsnO.reads ob
  obtain ⟨F, f, G, g0, rfl, -, -⟩ := id hav
  obtain ⟨F2, f2, G2, g2, rfl, -, -⟩ := id hbv
  have HOA := Lib.hid oa
  have HOB := Lib.hid ob
  have HA := Lib.hid hav
  have HBV := Lib.hid hbv
  have hz1 := hB1.size
  replace k0 := k0.next hB1
  replace k1 := k1.next hB1
  have HBw := Lib.hid (bgo hB0 hB1)
  have HR1 := Lib.hid (BytesR.below HR0.out hB1)
  clear hB1 hB0 oa ob hav hbv HR0
  obtain ⟨k5, k6⟩ := blk2 w1 tAs tAs #[.slice F a.facts.length f, .slice G a.atoms.length g0] #[.slice F2 b.facts.length f2, .slice G2 b.atoms.length g2]
  have hBx : Below w1.heap.size w1 ((w1.alloc (.cells #[.slice F a.facts.length f, .slice G a.atoms.length g0] tAs)).alloc (.cells #[.slice F2 b.facts.length f2, .slice G2 b.atoms.length g2] tAs)) := bbox (bbox (Below.refl _ _) _) _
  replace k0 := (k0.alloc (.cells #[.slice F a.facts.length f, .slice G a.atoms.length g0] tAs)).alloc (.cells #[.slice F2 b.facts.length f2, .slice G2 b.atoms.length g2] tAs)
  replace k1 := (k1.alloc (.cells #[.slice F a.facts.length f, .slice G a.atoms.length g0] tAs)).alloc (.cells #[.slice F2 b.facts.length f2, .slice G2 b.atoms.length g2] tAs)
  have l5 := k5.lt
  have l6 := k6.lt
  go_wp2_with fail
  generalize ((w1.alloc (.cells #[.slice F a.facts.length f, .slice G a.atoms.length g0] tAs)).alloc (.cells #[.slice F2 b.facts.length f2, .slice G2 b.atoms.length g2] tAs)) = W2 at k0 k1 k5 k6 hBx l5 l6 ⊢
  obtain ⟨X5, hX5⟩ : ∃ X, X = w1.heap.size := ⟨_, rfl⟩
  obtain ⟨X6, hX6⟩ : ∃ X, X = w1.heap.size + 1 := ⟨_, rfl⟩
  rw [← hX6] at k6 l6 ⊢
  rw [← hX5] at k5 l5 ⊢
  have e5 : w1.heap.size ≤ X5 := by omega
  have e6 : X5 < X6 := by omega
  clear hX5 hX6
  refine (c_l18Open A n c _ (BytesR.below HR1.out hBx)).mono ?_
  rintro e w3 ⟨g, rfl, hg, hR, hB3⟩
  have HB3 := Lib.hid (bgo hBx hB3)
  replace HBw := Lib.hid (bgo HBw.out (bgo hBx hB3))
  replace k0 := k0.next hB3
  replace k1 := k1.next hB3
  replace k5 := k5.next hB3
  replace k6 := k6.next hB3
  have HRD := Lib.hid hR
  have lg := hR.lt
  have e7 : X6 < g := by omega
  clear hB3 hBx hR l5 l6 HR1
  (replace qk0 := k0.cell; replace rk0 := k0.frozen; replace lk0 := k0.lt; replace qk1 := k1.cell; replace rk1 := k1.frozen; replace lk1 := k1.lt; replace qk5 := k5.cell; replace rk5 := k5.frozen; replace lk5 := k5.lt; replace qk6 := k6.cell; replace rk6 := k6.frozen; replace lk6 := k6.lt)
  go_wp2_with fail
  refine (c_spec_AssertionValid _ a _ (HA.out.below HB3.out)).mono ?_
  rintro e w4 ⟨rfl, hB4⟩
  have HB4 := Lib.hid (bgo HB3.out hB4)
  replace HBw := Lib.hid (bgo HBw.out hB4)
  replace k0 := k0.next hB4
  replace k1 := k1.next hB4
  replace k5 := k5.next hB4
  replace k6 := k6.next hB4
  replace HRD := Lib.hid (HRD.out.below hB4)
  replace lg : g < w4.heap.size := Nat.lt_of_lt_of_le lg hB4.size
  clear hB4 HB3
  (replace qk0 := k0.cell; replace rk0 := k0.frozen; replace lk0 := k0.lt; replace qk1 := k1.cell; replace rk1 := k1.frozen; replace lk1 := k1.lt; replace qk5 := k5.cell; replace rk5 := k5.frozen; replace lk5 := k5.lt; replace qk6 := k6.cell; replace rk6 := k6.frozen; replace lk6 := k6.lt)
  cases ha : a.valid
  · clear ha
    go_wp2_with fail
    refine wp_region_noPanic ?_
    refine wp_region_held_drew (S := (fun w' => (∀ i, w'.cell? ⟨X5, i, none⟩ = #[.slice F a.facts.length f, .slice G a.atoms.length g0][i]?) ∧ (∀ i, w'.cell? ⟨X6, i, none⟩ = #[.slice F2 b.facts.length f2, .slice G2 b.atoms.length g2][i]?))) (by kernel_rfl) (⟨k5.drew.cell, k6.drew.cell⟩) (fun hHeld => ?_)
    refine wpAnyH_take (i := 0) (v := ?_) rfl (by kernel_rfl) (by kernel_rfl) (by kernel_rfl) (fun _ _ _ h => h) (Or.inl ⟨by rfl, fun w hSw => ?_⟩) hHeld ?_
    rotate_left
    · ((try dsimp only at hSw); go_split_ands; go_simp; (try with_reducible rfl))
    try simp only [Act.put, List.getElem_toArray, List.getElem_cons_zero, List.getElem_cons_succ, List.setIfInBounds_toArray, List.set_cons_zero, List.set_cons_succ]
    refine wpAnyH_take (i := 1) (v := ?_) rfl (by kernel_rfl) (by kernel_rfl) (by kernel_rfl) (fun _ _ _ h => h) (Or.inl ⟨by rfl, fun w hSw => ?_⟩) hHeld ?_
    rotate_left
    · ((try dsimp only at hSw); go_split_ands; go_simp; (try with_reducible rfl))
    try simp only [Act.put, List.getElem_toArray, List.getElem_cons_zero, List.getElem_cons_succ, List.setIfInBounds_toArray, List.set_cons_zero, List.set_cons_succ]
    refine wpAnyH_par [2, 3, 4] #[true, true, true, true, true, false] 3 (by kernel_rfl) hHeld
      (fun a0 D a1 w' => Hid (Mk (fun x => x = w.heap.size ∨ x = w.heap.size + 1) w4 w' ∧ Blk w' w.heap.size tAs (if dn D 3 = true then #[.slice F a.facts.length f, .slice G a.atoms.length g0] else #[.slice none 0 0, .slice none 0 0]) ∧ Blk w' (w.heap.size + 1) tAs (if dn D 4 = true then #[.slice F2 b.facts.length f2, .slice G2 b.atoms.length g2] else #[.slice none 0 0, .slice none 0 0])) ∧ ∃ vv, a1 = a0.put (some 27) vv ∧ Hid (dn D 2 = true → ∃ x, vv = .slice (some ⟨x, 0, none⟩) 1 1 ∧ w4.heap.size ≤ x ∧ Blk w' x tI #[.int .i64 0])) ?start ?steps ?fin
    case start => exact ⟨⟨Mk.below_ (Below.refl _ _).drew, by rw [if_neg (by decide)]; exact k0.drew, by rw [if_neg (by decide)]; exact k1.drew⟩, undef, rfl, fun h => absurd h (by decide)⟩
    case steps =>
      refine ParSteps.cons rfl (fun D a1 w' hu hd hI hS K' hK G hG => ?_) (ParSteps.cons rfl (fun D a1 w' hu hd hI hS K' hK G hG => ?_) (ParSteps.cons rfl (fun D a1 w' hu hd hI hS K' hK G hG => ?_) (ParSteps.nil)))
      · obtain ⟨HW, vv, ha, h2⟩ := hI
        rw [ha] at hG
        clear ha a1
        refine hG ?_
        clear hG hd
        try simp only [Act.put, List.setIfInBounds_toArray, List.set_cons_zero, List.set_cons_succ]
        go_simp
        refine hK.out _ _ ⟨(HW.out.1.blk k5 (by omega)).alloc _ |>.cell, (HW.out.1.blk k6 (by omega)).alloc _ |>.cell⟩ ⟨⟨HW.out.1.trans (Mk.below_ (bbox (Below.refl _ _) _)), by rw [dn_ne (by decide)]; exact HW.out.2.1.alloc _, by rw [dn_ne (by decide)]; exact HW.out.2.2.alloc _⟩, .slice (some ⟨w'.heap.size, 0, none⟩) 1 1, rfl, fun _ => ⟨w'.heap.size, rfl, HW.out.1.size, Blk.new _ _ _⟩⟩
      · obtain ⟨HW, vv, ha, h2⟩ := hI
        rw [ha] at hG
        clear ha a1
        have u3 := dn_un hu
        have kz : Blk w' (w.heap.size) tAs #[.slice none 0 0, .slice none 0 0] := by have h := HW.out.2.1; rw [u3, if_neg (by decide)] at h; exact h
        have qz := kz.cell
        have rz := kz.frozen
        have lz := kz.lt
        have lr : w4.heap.size ≤ w'.heap.size := HW.out.1.size
        refine hG ?_
        clear hG hd u3
        try simp only [Act.put, List.setIfInBounds_toArray, List.set_cons_zero, List.set_cons_succ]
        go_simp
        refine hK.out _ _ ⟨(((HW.out.1.blk k5 (by omega)).far (p := ⟨w.heap.size, 0, none⟩) (by simp only; omega) _).far (p := ⟨w.heap.size, 1, none⟩) (by simp only; omega) _).cell, (((HW.out.1.blk k6 (by omega)).far (p := ⟨w.heap.size, 0, none⟩) (by simp only; omega) _).far (p := ⟨w.heap.size, 1, none⟩) (by simp only; omega) _).cell⟩ ⟨⟨(HW.out.1.set (x := ⟨w.heap.size, 0, none⟩) (by simp) _).set (x := ⟨w.heap.size, 1, none⟩) (by simp) _, (by rw [dn_self hu, if_pos rfl]; exact (kz.set_ 0 _).set_ 1 _), (by rw [dn_ne (by decide)]; exact ((HW.out.2.2).far (p := ⟨w.heap.size, 0, none⟩) (by simp only; omega) _).far (p := ⟨w.heap.size, 1, none⟩) (by simp only; omega) _)⟩, vv, rfl, fun h => by rw [dn_ne (by decide)] at h; obtain ⟨x, ex, hx, kx⟩ := h2.out h; exact ⟨x, ex, hx, (kx.far (p := ⟨w.heap.size, 0, none⟩) (by simp only; omega) _).far (p := ⟨w.heap.size, 1, none⟩) (by simp only; omega) _⟩⟩
      · obtain ⟨HW, vv, ha, h2⟩ := hI
        rw [ha] at hG
        clear ha a1
        have u3 := dn_un hu
        have kz : Blk w' (w.heap.size + 1) tAs #[.slice none 0 0, .slice none 0 0] := by have h := HW.out.2.2; rw [u3, if_neg (by decide)] at h; exact h
        have qz := kz.cell
        have rz := kz.frozen
        have lz := kz.lt
        have lr : w4.heap.size ≤ w'.heap.size := HW.out.1.size
        refine hG ?_
        clear hG hd u3
        try simp only [Act.put, List.setIfInBounds_toArray, List.set_cons_zero, List.set_cons_succ]
        go_simp
        refine hK.out _ _ ⟨(((HW.out.1.blk k5 (by omega)).far (p := ⟨w.heap.size + 1, 0, none⟩) (by simp only; omega) _).far (p := ⟨w.heap.size + 1, 1, none⟩) (by simp only; omega) _).cell, (((HW.out.1.blk k6 (by omega)).far (p := ⟨w.heap.size + 1, 0, none⟩) (by simp only; omega) _).far (p := ⟨w.heap.size + 1, 1, none⟩) (by simp only; omega) _).cell⟩ ⟨⟨(HW.out.1.set (x := ⟨w.heap.size + 1, 0, none⟩) (by simp) _).set (x := ⟨w.heap.size + 1, 1, none⟩) (by simp) _, (by rw [dn_ne (by decide)]; exact ((HW.out.2.1).far (p := ⟨w.heap.size + 1, 0, none⟩) (by simp only; omega) _).far (p := ⟨w.heap.size + 1, 1, none⟩) (by simp only; omega) _), (by rw [dn_self hu, if_pos rfl]; exact (kz.set_ 0 _).set_ 1 _)⟩, vv, rfl, fun h => by rw [dn_ne (by decide)] at h; obtain ⟨x, ex, hx, kx⟩ := h2.out h; exact ⟨x, ex, hx, (kx.far (p := ⟨w.heap.size + 1, 0, none⟩) (by simp only; omega) _).far (p := ⟨w.heap.size + 1, 1, none⟩) (by simp only; omega) _⟩⟩
    case fin =>
      rintro a1 V hHeld ⟨HW, vv, rfl, h2⟩
      obtain ⟨x, rfl, hx, kx⟩ := h2.out (by decide)
      clear h2
      have j0 : Blk V w.heap.size tAs #[.slice F a.facts.length f, .slice G a.atoms.length g0] := by have h := HW.out.2.1; rw [if_pos (by decide)] at h; exact h
      have j1 : Blk V (w.heap.size + 1) tAs #[.slice F2 b.facts.length f2, .slice G2 b.atoms.length g2] := by have h := HW.out.2.2; rw [if_pos (by decide)] at h; exact h
      have HM := Lib.hid HW.out.1
      try simp only [Act.put, List.setIfInBounds_toArray, List.set_cons_zero, List.set_cons_succ]
      refine wpAnyH_take (i := 5) (v := ?_) rfl (by kernel_rfl) (by kernel_rfl) (by kernel_rfl) (fun _ _ _ h => h) (Or.inl ⟨by rfl, fun w hSw => ?_⟩) hHeld ?_
      rotate_left
      · ((try dsimp only at hSw); go_split_ands; go_simp; (try with_reducible rfl))
      try simp only [Act.put, List.getElem_toArray, List.getElem_cons_zero, List.getElem_cons_succ, List.setIfInBounds_toArray, List.set_cons_zero, List.set_cons_succ]
      refine wpAnyH_done (by kernel_rfl) ?_ _
      refine NoPanic.normal ?_
      clear hHeld HW
      (replace qj0 := j0.cell; replace rj0 := j0.frozen; replace lj0 := j0.lt; replace qj1 := j1.cell; replace rj1 := j1.frozen; replace lj1 := j1.lt)
      go_wp2_with fail
      refine bodyPost_ret (v := .tuple #[.agg #[.slice F a.facts.length f, .slice G a.atoms.length g0], .agg #[.slice F2 b.facts.length f2, .slice G2 b.atoms.length g2], .slice (some ⟨x, 0, none⟩) 1 1]) (by simp [results, Try.results32, go_sem, qj0, qj1, lj0, lj1]) rfl ⟨_, _, a, b, some ⟨x, 0, none⟩, [0], 1, rfl, ?_, ?_, ?_, ?_⟩
      · exact ((HOA.out.below HB4.out).mk2 HM.out (fun g hg => by omega)).lower (by omega)
      · exact ((HOB.out.below HB4.out).mk2 HM.out (fun g hg => by omega)).lower (by omega)
      · exact (IntsV.lit kx (by rfl) (by simp)).mono (Nat.zero_le _) (by have := kx.lt; omega)
      · exact HBw.out.trans (HM.out.below (fun k hk => by omega) HBw.out.size)
  have HVA := Lib.hid ha
  clear ha
  go_wp2_with fail
  refine (c_spec_AssertionValid _ b _ (HBV.out.below HB4.out)).mono ?_
  rintro e w5 ⟨rfl, hB5⟩
  have HB5 := Lib.hid (bgo HB4.out hB5)
  replace HBw := Lib.hid (bgo HBw.out hB5)
  replace k0 := k0.next hB5
  replace k1 := k1.next hB5
  replace k5 := k5.next hB5
  replace k6 := k6.next hB5
  replace HRD := Lib.hid (HRD.out.below hB5)
  replace lg : g < w5.heap.size := Nat.lt_of_lt_of_le lg hB5.size
  clear hB5 HB4
  (replace qk0 := k0.cell; replace rk0 := k0.frozen; replace lk0 := k0.lt; replace qk1 := k1.cell; replace rk1 := k1.frozen; replace lk1 := k1.lt; replace qk5 := k5.cell; replace rk5 := k5.frozen; replace lk5 := k5.lt; replace qk6 := k6.cell; replace rk6 := k6.frozen; replace lk6 := k6.lt)
  cases hb : b.valid
  · clear hb
    go_wp2_with fail
    refine wp_region_noPanic ?_
    refine wp_region_held_drew (S := (fun w' => (∀ i, w'.cell? ⟨X5, i, none⟩ = #[.slice F a.facts.length f, .slice G a.atoms.length g0][i]?) ∧ (∀ i, w'.cell? ⟨X6, i, none⟩ = #[.slice F2 b.facts.length f2, .slice G2 b.atoms.length g2][i]?))) (by kernel_rfl) (⟨k5.drew.cell, k6.drew.cell⟩) (fun hHeld => ?_)
    refine wpAnyH_take (i := 0) (v := ?_) rfl (by kernel_rfl) (by kernel_rfl) (by kernel_rfl) (fun _ _ _ h => h) (Or.inl ⟨by rfl, fun w hSw => ?_⟩) hHeld ?_
    rotate_left
    · ((try dsimp only at hSw); go_split_ands; go_simp; (try with_reducible rfl))
    try simp only [Act.put, List.getElem_toArray, List.getElem_cons_zero, List.getElem_cons_succ, List.setIfInBounds_toArray, List.set_cons_zero, List.set_cons_succ]
    refine wpAnyH_take (i := 1) (v := ?_) rfl (by kernel_rfl) (by kernel_rfl) (by kernel_rfl) (fun _ _ _ h => h) (Or.inl ⟨by rfl, fun w hSw => ?_⟩) hHeld ?_
    rotate_left
    · ((try dsimp only at hSw); go_split_ands; go_simp; (try with_reducible rfl))
    try simp only [Act.put, List.getElem_toArray, List.getElem_cons_zero, List.getElem_cons_succ, List.setIfInBounds_toArray, List.set_cons_zero, List.set_cons_succ]
    refine wpAnyH_par [2, 3, 4] #[true, true, true, true, true, false] 3 (by kernel_rfl) hHeld
      (fun a0 D a1 w' => Hid (Mk (fun x => x = w.heap.size ∨ x = w.heap.size + 1) w5 w' ∧ Blk w' w.heap.size tAs (if dn D 3 = true then #[.slice F a.facts.length f, .slice G a.atoms.length g0] else #[.slice none 0 0, .slice none 0 0]) ∧ Blk w' (w.heap.size + 1) tAs (if dn D 4 = true then #[.slice F2 b.facts.length f2, .slice G2 b.atoms.length g2] else #[.slice none 0 0, .slice none 0 0])) ∧ ∃ vv, a1 = a0.put (some 27) vv ∧ Hid (dn D 2 = true → ∃ x, vv = .slice (some ⟨x, 0, none⟩) 1 1 ∧ w5.heap.size ≤ x ∧ Blk w' x tI #[.int .i64 0])) ?start ?steps ?fin
    case start => exact ⟨⟨Mk.below_ (Below.refl _ _).drew, by rw [if_neg (by decide)]; exact k0.drew, by rw [if_neg (by decide)]; exact k1.drew⟩, undef, rfl, fun h => absurd h (by decide)⟩
    case steps =>
      refine ParSteps.cons rfl (fun D a1 w' hu hd hI hS K' hK G hG => ?_) (ParSteps.cons rfl (fun D a1 w' hu hd hI hS K' hK G hG => ?_) (ParSteps.cons rfl (fun D a1 w' hu hd hI hS K' hK G hG => ?_) (ParSteps.nil)))
      · obtain ⟨HW, vv, ha, h2⟩ := hI
        rw [ha] at hG
        clear ha a1
        refine hG ?_
        clear hG hd
        try simp only [Act.put, List.setIfInBounds_toArray, List.set_cons_zero, List.set_cons_succ]
        go_simp
        refine hK.out _ _ ⟨(HW.out.1.blk k5 (by omega)).alloc _ |>.cell, (HW.out.1.blk k6 (by omega)).alloc _ |>.cell⟩ ⟨⟨HW.out.1.trans (Mk.below_ (bbox (Below.refl _ _) _)), by rw [dn_ne (by decide)]; exact HW.out.2.1.alloc _, by rw [dn_ne (by decide)]; exact HW.out.2.2.alloc _⟩, .slice (some ⟨w'.heap.size, 0, none⟩) 1 1, rfl, fun _ => ⟨w'.heap.size, rfl, HW.out.1.size, Blk.new _ _ _⟩⟩
      · obtain ⟨HW, vv, ha, h2⟩ := hI
        rw [ha] at hG
        clear ha a1
        have u3 := dn_un hu
        have kz : Blk w' (w.heap.size) tAs #[.slice none 0 0, .slice none 0 0] := by have h := HW.out.2.1; rw [u3, if_neg (by decide)] at h; exact h
        have qz := kz.cell
        have rz := kz.frozen
        have lz := kz.lt
        have lr : w5.heap.size ≤ w'.heap.size := HW.out.1.size
        refine hG ?_
        clear hG hd u3
        try simp only [Act.put, List.setIfInBounds_toArray, List.set_cons_zero, List.set_cons_succ]
        go_simp
        refine hK.out _ _ ⟨(((HW.out.1.blk k5 (by omega)).far (p := ⟨w.heap.size, 0, none⟩) (by simp only; omega) _).far (p := ⟨w.heap.size, 1, none⟩) (by simp only; omega) _).cell, (((HW.out.1.blk k6 (by omega)).far (p := ⟨w.heap.size, 0, none⟩) (by simp only; omega) _).far (p := ⟨w.heap.size, 1, none⟩) (by simp only; omega) _).cell⟩ ⟨⟨(HW.out.1.set (x := ⟨w.heap.size, 0, none⟩) (by simp) _).set (x := ⟨w.heap.size, 1, none⟩) (by simp) _, (by rw [dn_self hu, if_pos rfl]; exact (kz.set_ 0 _).set_ 1 _), (by rw [dn_ne (by decide)]; exact ((HW.out.2.2).far (p := ⟨w.heap.size, 0, none⟩) (by simp only; omega) _).far (p := ⟨w.heap.size, 1, none⟩) (by simp only; omega) _)⟩, vv, rfl, fun h => by rw [dn_ne (by decide)] at h; obtain ⟨x, ex, hx, kx⟩ := h2.out h; exact ⟨x, ex, hx, (kx.far (p := ⟨w.heap.size, 0, none⟩) (by simp only; omega) _).far (p := ⟨w.heap.size, 1, none⟩) (by simp only; omega) _⟩⟩
      · obtain ⟨HW, vv, ha, h2⟩ := hI
        rw [ha] at hG
        clear ha a1
        have u3 := dn_un hu
        have kz : Blk w' (w.heap.size + 1) tAs #[.slice none 0 0, .slice none 0 0] := by have h := HW.out.2.2; rw [u3, if_neg (by decide)] at h; exact h
        have qz := kz.cell
        have rz := kz.frozen
        have lz := kz.lt
        have lr : w5.heap.size ≤ w'.heap.size := HW.out.1.size
        refine hG ?_
        clear hG hd u3
        try simp only [Act.put, List.setIfInBounds_toArray, List.set_cons_zero, List.set_cons_succ]
        go_simp
        refine hK.out _ _ ⟨(((HW.out.1.blk k5 (by omega)).far (p := ⟨w.heap.size + 1, 0, none⟩) (by simp only; omega) _).far (p := ⟨w.heap.size + 1, 1, none⟩) (by simp only; omega) _).cell, (((HW.out.1.blk k6 (by omega)).far (p := ⟨w.heap.size + 1, 0, none⟩) (by simp only; omega) _).far (p := ⟨w.heap.size + 1, 1, none⟩) (by simp only; omega) _).cell⟩ ⟨⟨(HW.out.1.set (x := ⟨w.heap.size + 1, 0, none⟩) (by simp) _).set (x := ⟨w.heap.size + 1, 1, none⟩) (by simp) _, (by rw [dn_ne (by decide)]; exact ((HW.out.2.1).far (p := ⟨w.heap.size + 1, 0, none⟩) (by simp only; omega) _).far (p := ⟨w.heap.size + 1, 1, none⟩) (by simp only; omega) _), (by rw [dn_self hu, if_pos rfl]; exact (kz.set_ 0 _).set_ 1 _)⟩, vv, rfl, fun h => by rw [dn_ne (by decide)] at h; obtain ⟨x, ex, hx, kx⟩ := h2.out h; exact ⟨x, ex, hx, (kx.far (p := ⟨w.heap.size + 1, 0, none⟩) (by simp only; omega) _).far (p := ⟨w.heap.size + 1, 1, none⟩) (by simp only; omega) _⟩⟩
    case fin =>
      rintro a1 V hHeld ⟨HW, vv, rfl, h2⟩
      obtain ⟨x, rfl, hx, kx⟩ := h2.out (by decide)
      clear h2
      have j0 : Blk V w.heap.size tAs #[.slice F a.facts.length f, .slice G a.atoms.length g0] := by have h := HW.out.2.1; rw [if_pos (by decide)] at h; exact h
      have j1 : Blk V (w.heap.size + 1) tAs #[.slice F2 b.facts.length f2, .slice G2 b.atoms.length g2] := by have h := HW.out.2.2; rw [if_pos (by decide)] at h; exact h
      have HM := Lib.hid HW.out.1
      try simp only [Act.put, List.setIfInBounds_toArray, List.set_cons_zero, List.set_cons_succ]
      refine wpAnyH_take (i := 5) (v := ?_) rfl (by kernel_rfl) (by kernel_rfl) (by kernel_rfl) (fun _ _ _ h => h) (Or.inl ⟨by rfl, fun w hSw => ?_⟩) hHeld ?_
      rotate_left
      · ((try dsimp only at hSw); go_split_ands; go_simp; (try with_reducible rfl))
      try simp only [Act.put, List.getElem_toArray, List.getElem_cons_zero, List.getElem_cons_succ, List.setIfInBounds_toArray, List.set_cons_zero, List.set_cons_succ]
      refine wpAnyH_done (by kernel_rfl) ?_ _
      refine NoPanic.normal ?_
      clear hHeld HW
      (replace qj0 := j0.cell; replace rj0 := j0.frozen; replace lj0 := j0.lt; replace qj1 := j1.cell; replace rj1 := j1.frozen; replace lj1 := j1.lt)
      go_wp2_with fail
      refine bodyPost_ret (v := .tuple #[.agg #[.slice F a.facts.length f, .slice G a.atoms.length g0], .agg #[.slice F2 b.facts.length f2, .slice G2 b.atoms.length g2], .slice (some ⟨x, 0, none⟩) 1 1]) (by simp [results, Try.results32, go_sem, qj0, qj1, lj0, lj1]) rfl ⟨_, _, a, b, some ⟨x, 0, none⟩, [0], 1, rfl, ?_, ?_, ?_, ?_⟩
      · exact ((HOA.out.below HB5.out).mk2 HM.out (fun g hg => by omega)).lower (by omega)
      · exact ((HOB.out.below HB5.out).mk2 HM.out (fun g hg => by omega)).lower (by omega)
      · exact (IntsV.lit kx (by rfl) (by simp)).mono (Nat.zero_le _) (by have := kx.lt; omega)
      · exact HBw.out.trans (HM.out.below (fun k hk => by omega) HBw.out.size)
  have HVB := Lib.hid hb
  have HTT := Lib.hid (termsL_star_ok HVA.out hb)
  have HLA := Lib.hid (valid_len HVA.out)
  have HLB := Lib.hid (valid_len hb)
  have HSK : Hid (seek a (tset (termsL (starA a b))) 8 opened = cases a (caseS a (tset (termsL b)))) := seek_caseS HVA.out _ _ fun j h1 h2 => seek_bits j h1
  clear hb
  go_wp2_with fail
  refine wp_region_noPanic ?_
  refine wp_region_held_drew (S := (fun w' => (∀ i, w'.cell? ⟨X5, i, none⟩ = #[.slice F a.facts.length f, .slice G a.atoms.length g0][i]?) ∧ (∀ i, w'.cell? ⟨X6, i, none⟩ = #[.slice F2 b.facts.length f2, .slice G2 b.atoms.length g2][i]?))) (by kernel_rfl) (⟨k5.drew.cell, k6.drew.cell⟩) (fun hHeld => ?_)
  refine wpAnyH_take (i := 0) (v := ?_) rfl (by kernel_rfl) (by kernel_rfl) (by kernel_rfl) (fun _ _ _ h => h) (Or.inl ⟨by rfl, fun w hSw => ?_⟩) hHeld ?_
  rotate_left
  · ((try dsimp only at hSw); go_split_ands; go_simp; (try with_reducible rfl))
  try simp only [Act.put, List.getElem_toArray, List.getElem_cons_zero, List.getElem_cons_succ, List.setIfInBounds_toArray, List.set_cons_zero, List.set_cons_succ]
  refine wpAnyH_take (i := 1) (v := ?_) rfl (by kernel_rfl) (by kernel_rfl) (by kernel_rfl) (fun _ _ _ h => h) (Or.inl ⟨by rfl, fun w hSw => ?_⟩) hHeld ?_
  rotate_left
  · ((try dsimp only at hSw); go_split_ands; go_simp; (try with_reducible rfl))
  try simp only [Act.put, List.getElem_toArray, List.getElem_cons_zero, List.getElem_cons_succ, List.setIfInBounds_toArray, List.set_cons_zero, List.set_cons_succ]
  refine wpAnyH_take (i := 2) (v := ?_) rfl (by kernel_rfl) (by kernel_rfl) (by kernel_rfl) (fun _ _ _ h => h) (Or.inl ⟨by rfl, fun w hSw => ?_⟩) hHeld ?_
  rotate_left
  · ((try dsimp only at hSw); go_split_ands; go_simp; (try with_reducible rfl))
  try simp only [Act.put, List.getElem_toArray, List.getElem_cons_zero, List.getElem_cons_succ, List.setIfInBounds_toArray, List.set_cons_zero, List.set_cons_succ]
  refine wpAnyH_ready (rs := [3]) (by kernel_rfl) (by simp) ?_
  refine AllReadyH.cons rfl (fun K hK => ?_) AllReadyH.nil
  try simp only [List.getElem_toArray, List.getElem_cons_zero, List.getElem_cons_succ]
  (go_simp; refine (c_spec_l6Both _ _ a b _ (HA.out.below (bgo HB5.out (Below.refl _ _).drew)) (HBV.out.below (bgo HB5.out (Below.refl _ _).drew)) (by have h1 := HLA.out; have h2 := HLB.out; omega) (by have h1 := HLA.out; have h2 := HLB.out; omega) HTT.out).mono ?_; rintro e w6 ⟨r6, rfl, o6, hB6⟩; obtain ⟨Tb, ct, rfl, fT⟩ := o6.reads; rw [flagsOf_length]; have hB6' := bgo (Below.refl _ _).drew hB6; have HB6 := Lib.hid (bgo HB5.out hB6'); replace HBw := Lib.hid (bgo HBw.out hB6'); replace k0 := k0.next hB6'; replace k1 := k1.next hB6'; replace k5 := k5.next hB6'; replace k6 := k6.next hB6'; replace HRD := Lib.hid (HRD.out.below hB6'); replace lg : g < w6.heap.size := Nat.lt_of_lt_of_le lg hB6'.size; have FT := Lib.hid fT; clear o6 fT hB6 hB6' HB5)
  refine hK.out _ _ (⟨k5.cell, k6.cell⟩) (fun hHeldN => ?_)
  clear hHeld hK K
  have hHeld := hHeldN
  clear hHeldN
  try simp only [Act.put, List.getElem_toArray, List.getElem_cons_zero, List.getElem_cons_succ, List.setIfInBounds_toArray, List.set_cons_zero, List.set_cons_succ]
  refine wpAnyH_ready (rs := [4]) (by kernel_rfl) (by simp) ?_
  refine AllReadyH.cons rfl (fun K hK => ?_) AllReadyH.nil
  try simp only [List.getElem_toArray, List.getElem_cons_zero, List.getElem_cons_succ]
  (go_simp; refine (c_spec_l5All Tb ct _ HVA.out ((HA.out.below HB6.out).mono (Nat.le_refl _) HB6.out.size) FT.out (Nat.le_refl _) (Nat.le_refl _) (by rw [HSK.out]; exact Nat.le_trans (cases_len _ _) (by omega))).mono ?_; rintro e w7 ⟨r7, rfl, o7, hB7⟩; rw [HSK.out] at o7; have HB7 := Lib.hid (bgo HB6.out hB7); replace HBw := Lib.hid (bgo HBw.out hB7); replace k0 := k0.next hB7; replace k1 := k1.next hB7; replace k5 := k5.next hB7; replace k6 := k6.next hB7; replace HRD := Lib.hid (HRD.out.below hB7); have lgb : g < w6.heap.size := lg; replace lg : g < w7.heap.size := Nat.lt_of_lt_of_le lg hB7.size; clear hB7 HB6 FT)
  refine hK.out _ _ (⟨k5.cell, k6.cell⟩) (fun hHeldN => ?_)
  clear hHeld hK K
  have hHeld := hHeldN
  clear hHeldN
  try simp only [Act.put, List.getElem_toArray, List.getElem_cons_zero, List.getElem_cons_succ, List.setIfInBounds_toArray, List.set_cons_zero, List.set_cons_succ]
  refine wpAnyH_take (i := 5) (v := ?_) rfl (by kernel_rfl) (by kernel_rfl) (by kernel_rfl) (fun _ _ _ h => h) (Or.inl ⟨by rfl, fun w hSw => ?_⟩) hHeld ?_
  rotate_left
  · ((try dsimp only at hSw); go_split_ands; go_simp; (try with_reducible rfl))
  try simp only [Act.put, List.getElem_toArray, List.getElem_cons_zero, List.getElem_cons_succ, List.setIfInBounds_toArray, List.set_cons_zero, List.set_cons_succ]
  refine wpAnyH_done (by kernel_rfl) ?_ _
  refine NoPanic.normal ?_
  clear hHeld
  have hl7 : (cases a (caseS a (tset (termsL b)))).length ≤ 362880 := cases_len _ _
  have H9 : Hid (∀ x ∈ cases a (caseS a (tset (termsL b))), x.length = 9) := fun x hx => (case_iff.1 hx).1
  obtain ⟨A7, c7, rfl⟩ := o7.form
  have HO7 := Lib.hid o7
  clear o7 HSK HTT HLA HLB
  generalize cases a (caseS a (tset (termsL b))) = X at HO7 hl7 H9 ⊢
  have h67 : w1.heap.size ≤ w6.heap.size := by
    have := HB7.out.size; omega
  (replace qk0 := k0.cell; replace rk0 := k0.frozen; replace lk0 := k0.lt; replace qk1 := k1.cell; replace rk1 := k1.frozen; replace lk1 := k1.lt; replace qk5 := k5.cell; replace rk5 := k5.frozen; replace lk5 := k5.lt; replace qk6 := k6.cell; replace rk6 := k6.frozen; replace lk6 := k6.lt)
  by_cases hX : X.length = 0
  · have hXi : ((X.length : Int) == 0) = true := by simp [hX]
    clear hX
    go_wp2_with fail
    refine wp_region_noPanic ?_
    refine wp_region_held_drew (S := (fun w' => (∀ i, w'.cell? ⟨X5, i, none⟩ = #[.slice F a.facts.length f, .slice G a.atoms.length g0][i]?) ∧ (∀ i, w'.cell? ⟨X6, i, none⟩ = #[.slice F2 b.facts.length f2, .slice G2 b.atoms.length g2][i]?))) (by kernel_rfl) (⟨k5.drew.cell, k6.drew.cell⟩) (fun hHeld => ?_)
    refine wpAnyH_take (i := 0) (v := ?_) rfl (by kernel_rfl) (by kernel_rfl) (by kernel_rfl) (fun _ _ _ h => h) (Or.inl ⟨by rfl, fun w hSw => ?_⟩) hHeld ?_
    rotate_left
    · ((try dsimp only at hSw); go_split_ands; go_simp; (try with_reducible rfl))
    try simp only [Act.put, List.getElem_toArray, List.getElem_cons_zero, List.getElem_cons_succ, List.setIfInBounds_toArray, List.set_cons_zero, List.set_cons_succ]
    refine wpAnyH_take (i := 1) (v := ?_) rfl (by kernel_rfl) (by kernel_rfl) (by kernel_rfl) (fun _ _ _ h => h) (Or.inl ⟨by rfl, fun w hSw => ?_⟩) hHeld ?_
    rotate_left
    · ((try dsimp only at hSw); go_split_ands; go_simp; (try with_reducible rfl))
    try simp only [Act.put, List.getElem_toArray, List.getElem_cons_zero, List.getElem_cons_succ, List.setIfInBounds_toArray, List.set_cons_zero, List.set_cons_succ]
    refine wpAnyH_par [2, 3, 4] #[true, true, true, true, true, false] 3 (by kernel_rfl) hHeld
      (fun a0 D a1 w' => Hid (Mk (fun x => x = w.heap.size ∨ x = w.heap.size + 1) w7 w' ∧ Blk w' w.heap.size tAs (if dn D 3 = true then #[.slice F a.facts.length f, .slice G a.atoms.length g0] else #[.slice none 0 0, .slice none 0 0]) ∧ Blk w' (w.heap.size + 1) tAs (if dn D 4 = true then #[.slice F2 b.facts.length f2, .slice G2 b.atoms.length g2] else #[.slice none 0 0, .slice none 0 0])) ∧ ∃ vv, a1 = a0.put (some 38) vv ∧ Hid (dn D 2 = true → ∃ x, vv = .slice (some ⟨x, 0, none⟩) 9 9 ∧ w7.heap.size ≤ x ∧ Blk w' x tI #[.int .i64 0, .int .i64 1, .int .i64 (-1), .int .i64 (-1), .int .i64 (-1), .int .i64 (-1), .int .i64 (-1), .int .i64 (-1), .int .i64 (-1)])) ?start ?steps ?fin
    case start => exact ⟨⟨Mk.below_ (Below.refl _ _).drew, by rw [if_neg (by decide)]; exact k0.drew, by rw [if_neg (by decide)]; exact k1.drew⟩, undef, rfl, fun h => absurd h (by decide)⟩
    case steps =>
      refine ParSteps.cons rfl (fun D a1 w' hu hd hI hS K' hK G hG => ?_) (ParSteps.cons rfl (fun D a1 w' hu hd hI hS K' hK G hG => ?_) (ParSteps.cons rfl (fun D a1 w' hu hd hI hS K' hK G hG => ?_) (ParSteps.nil)))
      · obtain ⟨HW, vv, ha, h2⟩ := hI
        rw [ha] at hG
        clear ha a1
        refine hG ?_
        clear hG hd
        try simp only [Act.put, List.setIfInBounds_toArray, List.set_cons_zero, List.set_cons_succ]
        go_simp
        refine hK.out _ _ ⟨(HW.out.1.blk k5 (by omega)).alloc _ |>.cell, (HW.out.1.blk k6 (by omega)).alloc _ |>.cell⟩ ⟨⟨HW.out.1.trans (Mk.below_ (bbox (Below.refl _ _) _)), by rw [dn_ne (by decide)]; exact HW.out.2.1.alloc _, by rw [dn_ne (by decide)]; exact HW.out.2.2.alloc _⟩, .slice (some ⟨w'.heap.size, 0, none⟩) 9 9, rfl, fun _ => ⟨w'.heap.size, rfl, HW.out.1.size, Blk.new _ _ _⟩⟩
      · obtain ⟨HW, vv, ha, h2⟩ := hI
        rw [ha] at hG
        clear ha a1
        have u3 := dn_un hu
        have kz : Blk w' (w.heap.size) tAs #[.slice none 0 0, .slice none 0 0] := by have h := HW.out.2.1; rw [u3, if_neg (by decide)] at h; exact h
        have qz := kz.cell
        have rz := kz.frozen
        have lz := kz.lt
        have lr : w7.heap.size ≤ w'.heap.size := HW.out.1.size
        refine hG ?_
        clear hG hd u3
        try simp only [Act.put, List.setIfInBounds_toArray, List.set_cons_zero, List.set_cons_succ]
        go_simp
        refine hK.out _ _ ⟨(((HW.out.1.blk k5 (by omega)).far (p := ⟨w.heap.size, 0, none⟩) (by simp only; omega) _).far (p := ⟨w.heap.size, 1, none⟩) (by simp only; omega) _).cell, (((HW.out.1.blk k6 (by omega)).far (p := ⟨w.heap.size, 0, none⟩) (by simp only; omega) _).far (p := ⟨w.heap.size, 1, none⟩) (by simp only; omega) _).cell⟩ ⟨⟨(HW.out.1.set (x := ⟨w.heap.size, 0, none⟩) (by simp) _).set (x := ⟨w.heap.size, 1, none⟩) (by simp) _, (by rw [dn_self hu, if_pos rfl]; exact (kz.set_ 0 _).set_ 1 _), (by rw [dn_ne (by decide)]; exact ((HW.out.2.2).far (p := ⟨w.heap.size, 0, none⟩) (by simp only; omega) _).far (p := ⟨w.heap.size, 1, none⟩) (by simp only; omega) _)⟩, vv, rfl, fun h => by rw [dn_ne (by decide)] at h; obtain ⟨x, ex, hx, kx⟩ := h2.out h; exact ⟨x, ex, hx, (kx.far (p := ⟨w.heap.size, 0, none⟩) (by simp only; omega) _).far (p := ⟨w.heap.size, 1, none⟩) (by simp only; omega) _⟩⟩
      · obtain ⟨HW, vv, ha, h2⟩ := hI
        rw [ha] at hG
        clear ha a1
        have u3 := dn_un hu
        have kz : Blk w' (w.heap.size + 1) tAs #[.slice none 0 0, .slice none 0 0] := by have h := HW.out.2.2; rw [u3, if_neg (by decide)] at h; exact h
        have qz := kz.cell
        have rz := kz.frozen
        have lz := kz.lt
        have lr : w7.heap.size ≤ w'.heap.size := HW.out.1.size
        refine hG ?_
        clear hG hd u3
        try simp only [Act.put, List.setIfInBounds_toArray, List.set_cons_zero, List.set_cons_succ]
        go_simp
        refine hK.out _ _ ⟨(((HW.out.1.blk k5 (by omega)).far (p := ⟨w.heap.size + 1, 0, none⟩) (by simp only; omega) _).far (p := ⟨w.heap.size + 1, 1, none⟩) (by simp only; omega) _).cell, (((HW.out.1.blk k6 (by omega)).far (p := ⟨w.heap.size + 1, 0, none⟩) (by simp only; omega) _).far (p := ⟨w.heap.size + 1, 1, none⟩) (by simp only; omega) _).cell⟩ ⟨⟨(HW.out.1.set (x := ⟨w.heap.size + 1, 0, none⟩) (by simp) _).set (x := ⟨w.heap.size + 1, 1, none⟩) (by simp) _, (by rw [dn_ne (by decide)]; exact ((HW.out.2.1).far (p := ⟨w.heap.size + 1, 0, none⟩) (by simp only; omega) _).far (p := ⟨w.heap.size + 1, 1, none⟩) (by simp only; omega) _), (by rw [dn_self hu, if_pos rfl]; exact (kz.set_ 0 _).set_ 1 _)⟩, vv, rfl, fun h => by rw [dn_ne (by decide)] at h; obtain ⟨x, ex, hx, kx⟩ := h2.out h; exact ⟨x, ex, hx, (kx.far (p := ⟨w.heap.size + 1, 0, none⟩) (by simp only; omega) _).far (p := ⟨w.heap.size + 1, 1, none⟩) (by simp only; omega) _⟩⟩
    case fin =>
      rintro a1 V hHeld ⟨HW, vv, rfl, h2⟩
      obtain ⟨x, rfl, hx, kx⟩ := h2.out (by decide)
      clear h2
      have j0 : Blk V w.heap.size tAs #[.slice F a.facts.length f, .slice G a.atoms.length g0] := by have h := HW.out.2.1; rw [if_pos (by decide)] at h; exact h
      have j1 : Blk V (w.heap.size + 1) tAs #[.slice F2 b.facts.length f2, .slice G2 b.atoms.length g2] := by have h := HW.out.2.2; rw [if_pos (by decide)] at h; exact h
      have HM := Lib.hid HW.out.1
      try simp only [Act.put, List.setIfInBounds_toArray, List.set_cons_zero, List.set_cons_succ]
      refine wpAnyH_take (i := 5) (v := ?_) rfl (by kernel_rfl) (by kernel_rfl) (by kernel_rfl) (fun _ _ _ h => h) (Or.inl ⟨by rfl, fun w hSw => ?_⟩) hHeld ?_
      rotate_left
      · ((try dsimp only at hSw); go_split_ands; go_simp; (try with_reducible rfl))
      try simp only [Act.put, List.getElem_toArray, List.getElem_cons_zero, List.getElem_cons_succ, List.setIfInBounds_toArray, List.set_cons_zero, List.set_cons_succ]
      refine wpAnyH_done (by kernel_rfl) ?_ _
      refine NoPanic.normal ?_
      clear hHeld HW
      (replace qj0 := j0.cell; replace rj0 := j0.frozen; replace lj0 := j0.lt; replace qj1 := j1.cell; replace rj1 := j1.frozen; replace lj1 := j1.lt)
      go_wp2_with fail
      refine bodyPost_ret (v := .tuple #[.agg #[.slice F a.facts.length f, .slice G a.atoms.length g0], .agg #[.slice F2 b.facts.length f2, .slice G2 b.atoms.length g2], .slice (some ⟨x, 0, none⟩) 9 9]) (by simp [results, Try.results32, go_sem, qj0, qj1, lj0, lj1]) rfl ⟨_, _, a, b, some ⟨x, 0, none⟩, [0, 1, -1, -1, -1, -1, -1, -1, -1], 9, rfl, ?_, ?_, ?_, ?_⟩
      · exact ((HOA.out.below HB7.out).mk2 HM.out (fun g hg => by omega)).lower (by omega)
      · exact ((HOB.out.below HB7.out).mk2 HM.out (fun g hg => by omega)).lower (by omega)
      · exact (IntsV.lit kx (by rfl) (by simp)).mono (Nat.zero_le _) (by have := kx.lt; omega)
      · exact HBw.out.trans (HM.out.below (fun k hk => by omega) HBw.out.size)
  have hXi : ((X.length : Int) == 0) = false := by simpa using hX
  go_wp2_with fail
  refine (c_pick g 0 (X.length : Int) _ HRD.out (by omega)).mono ?_
  rintro e w8 ⟨m, rfl, hm, hR, hF⟩
  have hmX : m < X.length := by omega
  have hmi : (m : Int) < (X.length : Int) := by omega
  have HB8 : Hid (Below w1.heap.size w1 w8) := HB7.out.trans (hF.below (by omega) (by omega))
  replace HBw : Hid (Below w.heap.size w w8) := HBw.out.trans (hF.below (by omega) (by omega))
  replace k0 := k0.fr hF (by omega)
  replace k1 := k1.fr hF (by omega)
  replace k5 := k5.fr hF (by omega)
  replace k6 := k6.fr hF (by omega)
  replace HRD := Lib.hid hR
  have HO8 := Lib.hid (HO7.out.fr hF lgb)
  have lg8 := hR.lt
  obtain ⟨xb, xo, C, cc, rfl, hxc, hxo⟩ := HO8.out.pickO hmX
  have h9 := H9.out _ (List.getElem_mem hmX)
  obtain ⟨cs, hcs⟩ : ∃ cs, cs = X[m] := ⟨_, rfl⟩
  rw [← hcs] at hxc hxo h9
  have HCS0 := Lib.hid hxo
  have H90 := Lib.hid h9
  clear hR hF hm hcs hxo h9 HB7 HO7 HO8 H9
  (replace qk0 := k0.cell; replace rk0 := k0.frozen; replace lk0 := k0.lt; replace qk1 := k1.cell; replace rk1 := k1.frozen; replace lk1 := k1.lt; replace qk5 := k5.cell; replace rk5 := k5.frozen; replace lk5 := k5.lt; replace qk6 := k6.cell; replace rk6 := k6.frozen; replace lk6 := k6.lt)
  go_wp2_with fail
  refine (c_pick g 1 8 _ HRD.out (by omega)).mono ?_
  rintro e w9 ⟨m2, rfl, hm2, hR, hF⟩
  have HB9 : Hid (Below w1.heap.size w1 w9) := HB8.out.trans (hF.below (by omega) (by omega))
  replace HBw : Hid (Below w.heap.size w w9) := HBw.out.trans (hF.below (by omega) (by omega))
  replace k0 := k0.fr hF (by omega)
  replace k1 := k1.fr hF (by omega)
  replace k5 := k5.fr hF (by omega)
  replace k6 := k6.fr hF (by omega)
  replace HRD := Lib.hid hR
  have HCS := Lib.hid (HCS0.out.fr hF lgb)
  have lg9 := hR.lt
  clear hR hF hm2 HB8 hxc HCS0
  (replace qk0 := k0.cell; replace rk0 := k0.frozen; replace lk0 := k0.lt; replace qk1 := k1.cell; replace rk1 := k1.frozen; replace lk1 := k1.lt; replace qk5 := k5.cell; replace rk5 := k5.frozen; replace lk5 := k5.lt; replace qk6 := k6.cell; replace rk6 := k6.frozen; replace lk6 := k6.lt)
  by_cases hm0 : m2 = 0
  rotate_left
  · have hmb : ((m2 : Int) == 0) = false := by simpa using hm0
    clear hm0
    go_wp2_with fail
    refine wp_region_noPanic ?_
    refine wp_region_held_drew (S := (fun w' => (∀ i, w'.cell? ⟨X5, i, none⟩ = #[.slice F a.facts.length f, .slice G a.atoms.length g0][i]?) ∧ (∀ i, w'.cell? ⟨X6, i, none⟩ = #[.slice F2 b.facts.length f2, .slice G2 b.atoms.length g2][i]?))) (by kernel_rfl) (⟨k5.drew.cell, k6.drew.cell⟩) (fun hHeld => ?_)
    refine wpAnyH_take (i := 0) (v := ?_) rfl (by kernel_rfl) (by kernel_rfl) (by kernel_rfl) (fun _ _ _ h => h) (Or.inl ⟨by rfl, fun w hSw => ?_⟩) hHeld ?_
    rotate_left
    · ((try dsimp only at hSw); go_split_ands; go_simp; (try with_reducible rfl))
    try simp only [Act.put, List.getElem_toArray, List.getElem_cons_zero, List.getElem_cons_succ, List.setIfInBounds_toArray, List.set_cons_zero, List.set_cons_succ]
    refine wpAnyH_take (i := 1) (v := ?_) rfl (by kernel_rfl) (by kernel_rfl) (by kernel_rfl) (fun _ _ _ h => h) (Or.inl ⟨by rfl, fun w hSw => ?_⟩) hHeld ?_
    rotate_left
    · ((try dsimp only at hSw); go_split_ands; go_simp; (try with_reducible rfl))
    try simp only [Act.put, List.getElem_toArray, List.getElem_cons_zero, List.getElem_cons_succ, List.setIfInBounds_toArray, List.set_cons_zero, List.set_cons_succ]
    refine wpAnyH_take (i := 2) (v := ?_) rfl (by kernel_rfl) (by kernel_rfl) (by kernel_rfl) (fun _ _ _ h => h) (Or.inl ⟨by rfl, fun w hSw => ?_⟩) hHeld ?_
    rotate_left
    · ((try dsimp only at hSw); go_split_ands; go_simp; (try with_reducible rfl))
    try simp only [Act.put, List.getElem_toArray, List.getElem_cons_zero, List.getElem_cons_succ, List.setIfInBounds_toArray, List.set_cons_zero, List.set_cons_succ]
    refine wpAnyH_par [3, 4] #[true, true, true, true, true, false] 2 (by kernel_rfl) hHeld
      (fun a0 D a1 w' => Hid (Mk (fun x => x = w.heap.size ∨ x = w.heap.size + 1) w9 w' ∧ Blk w' w.heap.size tAs (if dn D 3 = true then #[.slice F a.facts.length f, .slice G a.atoms.length g0] else #[.slice none 0 0, .slice none 0 0]) ∧ Blk w' (w.heap.size + 1) tAs (if dn D 4 = true then #[.slice F2 b.facts.length f2, .slice G2 b.atoms.length g2] else #[.slice none 0 0, .slice none 0 0])) ∧ a1 = a0) ?start ?steps ?fin
    case start => exact ⟨⟨Mk.below_ (Below.refl _ _).drew, by rw [if_neg (by decide)]; exact k0.drew, by rw [if_neg (by decide)]; exact k1.drew⟩, rfl⟩
    case steps =>
      refine ParSteps.cons rfl (fun D a1 w' hu hd hI hS K' hK G hG => ?_) (ParSteps.cons rfl (fun D a1 w' hu hd hI hS K' hK G hG => ?_) (ParSteps.nil))
      · obtain ⟨HW, ha⟩ := hI
        rw [ha] at hG
        clear ha a1
        have u3 := dn_un hu
        have kz : Blk w' (w.heap.size) tAs #[.slice none 0 0, .slice none 0 0] := by have h := HW.out.2.1; rw [u3, if_neg (by decide)] at h; exact h
        have qz := kz.cell
        have rz := kz.frozen
        have lz := kz.lt
        have lr : w9.heap.size ≤ w'.heap.size := HW.out.1.size
        refine hG ?_
        clear hG hd u3
        try simp only [Act.put, List.setIfInBounds_toArray, List.set_cons_zero, List.set_cons_succ]
        go_simp
        refine hK.out _ _ ⟨(((HW.out.1.blk k5 (by omega)).far (p := ⟨w.heap.size, 0, none⟩) (by simp only; omega) _).far (p := ⟨w.heap.size, 1, none⟩) (by simp only; omega) _).cell, (((HW.out.1.blk k6 (by omega)).far (p := ⟨w.heap.size, 0, none⟩) (by simp only; omega) _).far (p := ⟨w.heap.size, 1, none⟩) (by simp only; omega) _).cell⟩ ⟨⟨(HW.out.1.set (x := ⟨w.heap.size, 0, none⟩) (by simp) _).set (x := ⟨w.heap.size, 1, none⟩) (by simp) _, (by rw [dn_self hu, if_pos rfl]; exact (kz.set_ 0 _).set_ 1 _), (by rw [dn_ne (by decide)]; exact ((HW.out.2.2).far (p := ⟨w.heap.size, 0, none⟩) (by simp only; omega) _).far (p := ⟨w.heap.size, 1, none⟩) (by simp only; omega) _)⟩, rfl⟩
      · obtain ⟨HW, ha⟩ := hI
        rw [ha] at hG
        clear ha a1
        have u3 := dn_un hu
        have kz : Blk w' (w.heap.size + 1) tAs #[.slice none 0 0, .slice none 0 0] := by have h := HW.out.2.2; rw [u3, if_neg (by decide)] at h; exact h
        have qz := kz.cell
        have rz := kz.frozen
        have lz := kz.lt
        have lr : w9.heap.size ≤ w'.heap.size := HW.out.1.size
        refine hG ?_
        clear hG hd u3
        try simp only [Act.put, List.setIfInBounds_toArray, List.set_cons_zero, List.set_cons_succ]
        go_simp
        refine hK.out _ _ ⟨(((HW.out.1.blk k5 (by omega)).far (p := ⟨w.heap.size + 1, 0, none⟩) (by simp only; omega) _).far (p := ⟨w.heap.size + 1, 1, none⟩) (by simp only; omega) _).cell, (((HW.out.1.blk k6 (by omega)).far (p := ⟨w.heap.size + 1, 0, none⟩) (by simp only; omega) _).far (p := ⟨w.heap.size + 1, 1, none⟩) (by simp only; omega) _).cell⟩ ⟨⟨(HW.out.1.set (x := ⟨w.heap.size + 1, 0, none⟩) (by simp) _).set (x := ⟨w.heap.size + 1, 1, none⟩) (by simp) _, (by rw [dn_ne (by decide)]; exact ((HW.out.2.1).far (p := ⟨w.heap.size + 1, 0, none⟩) (by simp only; omega) _).far (p := ⟨w.heap.size + 1, 1, none⟩) (by simp only; omega) _), (by rw [dn_self hu, if_pos rfl]; exact (kz.set_ 0 _).set_ 1 _)⟩, rfl⟩
    case fin =>
      rintro a1 V hHeld ⟨HW, rfl⟩
      have j0 : Blk V w.heap.size tAs #[.slice F a.facts.length f, .slice G a.atoms.length g0] := by have h := HW.out.2.1; rw [if_pos (by decide)] at h; exact h
      have j1 : Blk V (w.heap.size + 1) tAs #[.slice F2 b.facts.length f2, .slice G2 b.atoms.length g2] := by have h := HW.out.2.2; rw [if_pos (by decide)] at h; exact h
      have HM := Lib.hid HW.out.1
      try simp only [Act.put, List.setIfInBounds_toArray, List.set_cons_zero, List.set_cons_succ]
      refine wpAnyH_take (i := 5) (v := ?_) rfl (by kernel_rfl) (by kernel_rfl) (by kernel_rfl) (fun _ _ _ h => h) (Or.inl ⟨by rfl, fun w hSw => ?_⟩) hHeld ?_
      rotate_left
      · ((try dsimp only at hSw); go_split_ands; go_simp; (try with_reducible rfl))
      try simp only [Act.put, List.getElem_toArray, List.getElem_cons_zero, List.getElem_cons_succ, List.setIfInBounds_toArray, List.set_cons_zero, List.set_cons_succ]
      refine wpAnyH_done (by kernel_rfl) ?_ _
      refine NoPanic.normal ?_
      clear hHeld HW
      (replace qj0 := j0.cell; replace rj0 := j0.frozen; replace lj0 := j0.lt; replace qj1 := j1.cell; replace rj1 := j1.frozen; replace lj1 := j1.lt)
      go_wp2_with fail
      refine bodyPost_ret (v := .tuple #[.agg #[.slice F a.facts.length f, .slice G a.atoms.length g0], .agg #[.slice F2 b.facts.length f2, .slice G2 b.atoms.length g2], .slice C cs.length cc]) (by simp [results, Try.results32, go_sem, qj0, qj1, lj0, lj1]) rfl ⟨_, _, a, b, C, cs, cc, rfl, ?_, ?_, ?_, ?_⟩
      · exact ((HOA.out.below HB9.out).mk2 HM.out (fun g hg => by omega)).lower (by omega)
      · exact ((HOB.out.below HB9.out).mk2 HM.out (fun g hg => by omega)).lower (by omega)
      · exact (IntsO.readsI (HCS.out.mk HM.out (fun g hg => by have := (HCS.out.1.lt g hg).1; omega))).2.mono (Nat.zero_le _) (Nat.le_refl _)
      · exact HBw.out.trans (HM.out.below (fun k hk => by omega) HBw.out.size)
  have hmb : ((m2 : Int) == 0) = true := by simp [hm0]
  clear hm0
  go_wp2_with fail
  refine (c_pick g 2 8 _ HRD.out (by omega)).mono ?_
  rintro e w10 ⟨m3, rfl, hm3, hR, hF⟩
  have hm38 : m3 < 8 := by omega
  have HB10 : Hid (Below w1.heap.size w1 w10) := HB9.out.trans (hF.below (by omega) (by omega))
  replace HBw : Hid (Below w.heap.size w w10) := HBw.out.trans (hF.below (by omega) (by omega))
  replace k0 := k0.fr hF (by omega)
  replace k1 := k1.fr hF (by omega)
  replace k5 := k5.fr hF (by omega)
  replace k6 := k6.fr hF (by omega)
  replace HRD := Lib.hid hR
  have HCS1 := Lib.hid (HCS.out.fr hF lgb)
  have lg10 := hR.lt
  clear hR hF hm3 HB9 HCS hmb
  (replace qk0 := k0.cell; replace rk0 := k0.frozen; replace lk0 := k0.lt; replace qk1 := k1.cell; replace rk1 := k1.frozen; replace lk1 := k1.lt; replace qk5 := k5.cell; replace rk5 := k5.frozen; replace lk5 := k5.lt; replace qk6 := k6.cell; replace rk6 := k6.frozen; replace lk6 := k6.lt)
  go_wp2_with fail
  refine (c_numL g 3 [0, 1, -1, 9, -2] w10.heap.size 5 _ _ (HRD.out.below bel) (by omega) (Blk.newE (by rfl)) (by rfl) (by omega) rfl (by simp) (by simp)).mono ?_
  rintro e w11 ⟨m4, hm4, rfl, hR, hF⟩
  replace hF := (Fr.refl g w10).alloc (.cells #[.int .i64 0, .int .i64 1, .int .i64 (-1), .int .i64 9, .int .i64 (-2)] tI) |>.trans hF
  have HB11 : Hid (Below w1.heap.size w1 w11) := HB10.out.trans (hF.below (by omega) (by omega))
  replace HBw : Hid (Below w.heap.size w w11) := HBw.out.trans (hF.below (by omega) (by omega))
  replace k0 := k0.fr hF (by omega)
  replace k1 := k1.fr hF (by omega)
  replace k5 := k5.fr hF (by omega)
  replace k6 := k6.fr hF (by omega)
  have HCS2 := Lib.hid (HCS1.out.fr hF lgb)
  clear hR hF hm4 HB10 HCS1 HRD
  (replace qk0 := k0.cell; replace rk0 := k0.frozen; replace lk0 := k0.lt; replace qk1 := k1.cell; replace rk1 := k1.frozen; replace lk1 := k1.lt; replace qk5 := k5.cell; replace rk5 := k5.frozen; replace lk5 := k5.lt; replace qk6 := k6.cell; replace rk6 := k6.frozen; replace lk6 := k6.lt)
  have hk3 : 1 + m3 < cs.length := by have := H90.out; omega
  have hk3i : 1 + (m3 : Int) < (cs.length : Int) := by omega
  obtain ⟨gc, cur, -, rfl, hgc, kc, hcur, hset⟩ := HCS2.out.open_ (k := 1 + m3) hk3
  have HSET := Lib.hid (hset m4)
  have qc : w11.cell? ⟨gc, 1 + m3, none⟩ = some (.int .i64 cs[1 + m3]) := by rw [kc.cell]; exact hcur
  have rc := kc.frozen
  have lc := kc.lt
  clear hset hcur
  go_wp2_with fail
  have hne5 : X5 ≠ gc := by omega
  have hne6 : X6 ≠ gc := by omega
  have HB12 : Hid (Below w1.heap.size w1 (w11.setCell ⟨gc, 1 + m3, none⟩ (.int .i64 m4))) := HB11.out.setCell (p := ⟨gc, 1 + m3, none⟩) (by simp only; omega) _
  replace HBw : Hid (Below w.heap.size w (w11.setCell ⟨gc, 1 + m3, none⟩ (.int .i64 m4))) := HBw.out.setCell (p := ⟨gc, 1 + m3, none⟩) (by simp only; omega) _
  replace k0 := k0.far (p := ⟨gc, 1 + m3, none⟩) (by simp only; omega) (.int .i64 m4)
  replace k1 := k1.far (p := ⟨gc, 1 + m3, none⟩) (by simp only; omega) (.int .i64 m4)
  replace k5 := k5.far (p := ⟨gc, 1 + m3, none⟩) (by simp only; omega) (.int .i64 m4)
  replace k6 := k6.far (p := ⟨gc, 1 + m3, none⟩) (by simp only; omega) (.int .i64 m4)
  have hs12 : w11.heap.size ≤ (w11.setCell ⟨gc, 1 + m3, none⟩ (.int .i64 m4)).heap.size := by simp
  clear HB11 HCS2 kc qc rc lc qk0 rk0 lk0 qk1 rk1 lk1 qk5 rk5 lk5 qk6 rk6 lk6
  generalize (w11.setCell ⟨gc, 1 + m3, none⟩ (.int .i64 m4)) = w12 at HB12 HBw k0 k1 k5 k6 HSET hs12 ⊢
  have hl2 : Hid (cs.length = (cs.set (1 + m3) m4).length) := by show _ = _; simp
  generalize cs.set (1 + m3) m4 = cs2 at HSET hl2
  have HCS := Lib.hid HSET.out
  clear HSET hk3 hk3i
  refine wp_region_noPanic ?_
  refine wp_region_held_drew (S := (fun w' => (∀ i, w'.cell? ⟨X5, i, none⟩ = #[.slice F a.facts.length f, .slice G a.atoms.length g0][i]?) ∧ (∀ i, w'.cell? ⟨X6, i, none⟩ = #[.slice F2 b.facts.length f2, .slice G2 b.atoms.length g2][i]?))) (by kernel_rfl) (⟨k5.drew.cell, k6.drew.cell⟩) (fun hHeld => ?_)
  refine wpAnyH_take (i := 0) (v := ?_) rfl (by kernel_rfl) (by kernel_rfl) (by kernel_rfl) (fun _ _ _ h => h) (Or.inl ⟨by rfl, fun w hSw => ?_⟩) hHeld ?_
  rotate_left
  · ((try dsimp only at hSw); go_split_ands; go_simp; (try with_reducible rfl))
  try simp only [Act.put, List.getElem_toArray, List.getElem_cons_zero, List.getElem_cons_succ, List.setIfInBounds_toArray, List.set_cons_zero, List.set_cons_succ]
  refine wpAnyH_take (i := 1) (v := ?_) rfl (by kernel_rfl) (by kernel_rfl) (by kernel_rfl) (fun _ _ _ h => h) (Or.inl ⟨by rfl, fun w hSw => ?_⟩) hHeld ?_
  rotate_left
  · ((try dsimp only at hSw); go_split_ands; go_simp; (try with_reducible rfl))
  try simp only [Act.put, List.getElem_toArray, List.getElem_cons_zero, List.getElem_cons_succ, List.setIfInBounds_toArray, List.set_cons_zero, List.set_cons_succ]
  refine wpAnyH_take (i := 2) (v := ?_) rfl (by kernel_rfl) (by kernel_rfl) (by kernel_rfl) (fun _ _ _ h => h) (Or.inl ⟨by rfl, fun w hSw => ?_⟩) hHeld ?_
  rotate_left
  · ((try dsimp only at hSw); go_split_ands; go_simp; (try with_reducible rfl))
  try simp only [Act.put, List.getElem_toArray, List.getElem_cons_zero, List.getElem_cons_succ, List.setIfInBounds_toArray, List.set_cons_zero, List.set_cons_succ]
  refine wpAnyH_par [3, 4] #[true, true, true, true, true, false] 2 (by kernel_rfl) hHeld
    (fun a0 D a1 w' => Hid (Mk (fun x => x = w.heap.size ∨ x = w.heap.size + 1) w12 w' ∧ Blk w' w.heap.size tAs (if dn D 3 = true then #[.slice F a.facts.length f, .slice G a.atoms.length g0] else #[.slice none 0 0, .slice none 0 0]) ∧ Blk w' (w.heap.size + 1) tAs (if dn D 4 = true then #[.slice F2 b.facts.length f2, .slice G2 b.atoms.length g2] else #[.slice none 0 0, .slice none 0 0])) ∧ a1 = a0) ?start ?steps ?fin
  case start => exact ⟨⟨Mk.below_ (Below.refl _ _).drew, by rw [if_neg (by decide)]; exact k0.drew, by rw [if_neg (by decide)]; exact k1.drew⟩, rfl⟩
  case steps =>
    refine ParSteps.cons rfl (fun D a1 w' hu hd hI hS K' hK G hG => ?_) (ParSteps.cons rfl (fun D a1 w' hu hd hI hS K' hK G hG => ?_) (ParSteps.nil))
    · obtain ⟨HW, ha⟩ := hI
      rw [ha] at hG
      clear ha a1
      have u3 := dn_un hu
      have kz : Blk w' (w.heap.size) tAs #[.slice none 0 0, .slice none 0 0] := by have h := HW.out.2.1; rw [u3, if_neg (by decide)] at h; exact h
      have qz := kz.cell
      have rz := kz.frozen
      have lz := kz.lt
      have lr : w12.heap.size ≤ w'.heap.size := HW.out.1.size
      refine hG ?_
      clear hG hd u3
      try simp only [Act.put, List.setIfInBounds_toArray, List.set_cons_zero, List.set_cons_succ]
      go_simp
      refine hK.out _ _ ⟨(((HW.out.1.blk k5 (by omega)).far (p := ⟨w.heap.size, 0, none⟩) (by simp only; omega) _).far (p := ⟨w.heap.size, 1, none⟩) (by simp only; omega) _).cell, (((HW.out.1.blk k6 (by omega)).far (p := ⟨w.heap.size, 0, none⟩) (by simp only; omega) _).far (p := ⟨w.heap.size, 1, none⟩) (by simp only; omega) _).cell⟩ ⟨⟨(HW.out.1.set (x := ⟨w.heap.size, 0, none⟩) (by simp) _).set (x := ⟨w.heap.size, 1, none⟩) (by simp) _, (by rw [dn_self hu, if_pos rfl]; exact (kz.set_ 0 _).set_ 1 _), (by rw [dn_ne (by decide)]; exact ((HW.out.2.2).far (p := ⟨w.heap.size, 0, none⟩) (by simp only; omega) _).far (p := ⟨w.heap.size, 1, none⟩) (by simp only; omega) _)⟩, rfl⟩
    · obtain ⟨HW, ha⟩ := hI
      rw [ha] at hG
      clear ha a1
      have u3 := dn_un hu
      have kz : Blk w' (w.heap.size + 1) tAs #[.slice none 0 0, .slice none 0 0] := by have h := HW.out.2.2; rw [u3, if_neg (by decide)] at h; exact h
      have qz := kz.cell
      have rz := kz.frozen
      have lz := kz.lt
      have lr : w12.heap.size ≤ w'.heap.size := HW.out.1.size
      refine hG ?_
      clear hG hd u3
      try simp only [Act.put, List.setIfInBounds_toArray, List.set_cons_zero, List.set_cons_succ]
      go_simp
      refine hK.out _ _ ⟨(((HW.out.1.blk k5 (by omega)).far (p := ⟨w.heap.size + 1, 0, none⟩) (by simp only; omega) _).far (p := ⟨w.heap.size + 1, 1, none⟩) (by simp only; omega) _).cell, (((HW.out.1.blk k6 (by omega)).far (p := ⟨w.heap.size + 1, 0, none⟩) (by simp only; omega) _).far (p := ⟨w.heap.size + 1, 1, none⟩) (by simp only; omega) _).cell⟩ ⟨⟨(HW.out.1.set (x := ⟨w.heap.size + 1, 0, none⟩) (by simp) _).set (x := ⟨w.heap.size + 1, 1, none⟩) (by simp) _, (by rw [dn_ne (by decide)]; exact ((HW.out.2.1).far (p := ⟨w.heap.size + 1, 0, none⟩) (by simp only; omega) _).far (p := ⟨w.heap.size + 1, 1, none⟩) (by simp only; omega) _), (by rw [dn_self hu, if_pos rfl]; exact (kz.set_ 0 _).set_ 1 _)⟩, rfl⟩
  case fin =>
    rintro a1 V hHeld ⟨HW, rfl⟩
    have j0 : Blk V w.heap.size tAs #[.slice F a.facts.length f, .slice G a.atoms.length g0] := by have h := HW.out.2.1; rw [if_pos (by decide)] at h; exact h
    have j1 : Blk V (w.heap.size + 1) tAs #[.slice F2 b.facts.length f2, .slice G2 b.atoms.length g2] := by have h := HW.out.2.2; rw [if_pos (by decide)] at h; exact h
    have HM := Lib.hid HW.out.1
    try simp only [Act.put, List.setIfInBounds_toArray, List.set_cons_zero, List.set_cons_succ]
    refine wpAnyH_take (i := 5) (v := ?_) rfl (by kernel_rfl) (by kernel_rfl) (by kernel_rfl) (fun _ _ _ h => h) (Or.inl ⟨by rfl, fun w hSw => ?_⟩) hHeld ?_
    rotate_left
    · ((try dsimp only at hSw); go_split_ands; go_simp; (try with_reducible rfl))
    try simp only [Act.put, List.getElem_toArray, List.getElem_cons_zero, List.getElem_cons_succ, List.setIfInBounds_toArray, List.set_cons_zero, List.set_cons_succ]
    refine wpAnyH_done (by kernel_rfl) ?_ _
    refine NoPanic.normal ?_
    clear hHeld HW
    (replace qj0 := j0.cell; replace rj0 := j0.frozen; replace lj0 := j0.lt; replace qj1 := j1.cell; replace rj1 := j1.frozen; replace lj1 := j1.lt)
    go_wp2_with fail
    refine bodyPost_ret (v := .tuple #[.agg #[.slice F a.facts.length f, .slice G a.atoms.length g0], .agg #[.slice F2 b.facts.length f2, .slice G2 b.atoms.length g2], .slice (some ⟨gc, 0, none⟩) cs.length cc]) (by simp [results, Try.results32, go_sem, qj0, qj1, lj0, lj1]) rfl ⟨_, _, a, b, (some ⟨gc, 0, none⟩), cs2, cc, (by rw [hl2.out]), ?_, ?_, ?_, ?_⟩
    · exact ((HOA.out.below HB12.out).mk2 HM.out (fun g hg => by omega)).lower (by omega)
    · exact ((HOB.out.below HB12.out).mk2 HM.out (fun g hg => by omega)).lower (by omega)
    · exact (IntsO.readsI (HCS.out.mk HM.out (fun g hg => by have := (HCS.out.1.lt g hg).1; omega))).2.mono (Nat.zero_le _) (Nat.le_refl _)
    · exact HBw.out.trans (HM.out.below (fun k hk => by omega) HBw.out.size)
end Go.Proofs.Ytmjgcdolnkdfoaa

/- Contracts: the list of the terms of an assertion; the laws' search of a list. -/
namespace Go.Proofs.Ytmjgcdolnkdfoaa
open Go Go.RowKit Go.Proofs
attribute [local go_sem ↓] Go.wp_at_zero Go.wp_at_succ

--@ impl.termSet.list
def tlistL (S k : Nat) : List Int := ((List.range k).filter fun n => S.testBit n).map fun n : Nat => (n : Int)
theorem tlistL_succ (S k : Nat) : tlistL S (k + 1) = tlistL S k ++ if S.testBit k then [(k : Int)] else [] := by
  unfold tlistL
  rw [List.range_succ, List.filter_append, List.map_append]
  cases h : S.testBit k <;> simp [h]
theorem tlistL_length (S k : Nat) : (tlistL S k).length ≤ k := by
  unfold tlistL
  rw [List.length_map]
  exact Nat.le_trans (List.length_filter_le _ _) (by simp)
set_option maxHeartbeats 1600000 in
theorem c_impl_termList (S : Nat) (w : World) (hS : S < 512) : Calls Try.prog 118 #[.int .u16 S] w fun e w' => ∃ r, e = .returned r ∧ IntsO w' w.heap.size r (tlistL S 9) ∧ Below w.heap.size w w' := by
  have HS := Lib.hid hS
  clear hS
  go_enter Try.func118, Try.ntmps118
  go_wp2
  go_loopw [3, 4] (fun o i wr => ∃ (k : Nat) (A : Option Addr) (c : Nat), k ≤ 9 ∧ i = .int .i64 k ∧ o = .slice A (tlistL S k).length c ∧ IntsO wr w.heap.size (.slice A (tlistL S k).length c) (tlistL S k) ∧ Below w.heap.size w wr) (fun _ i _ => 9 - (intOf i).toNat)
  case atStart => exact ⟨0, none, 0, by omega, rfl, rfl, IntsO.nil _ _, bel⟩
  case round =>
    obtain ⟨k, A, c, hk, rfl, rfl, hO, hB⟩ := hrel
    have hlen := tlistL_length S k
    by_cases h8 : k < 9
    · have hv : isTermB (k : Int) = true := isTermB_iff.2 (by omega)
      have HC := Lib.hid (tlistL_succ S k)
      have hki : (k : Int) ≤ 8 := by omega
      cases ht : S.testBit k
      · go_wp2_with fail
        refine (c_impl_tHas S _ _ HS.out).mono ?_
        rintro e w' ⟨rfl, rfl⟩
        rw [hv, Int.toNat_natCast, ht]
        go_wp2_with fail
        go_round
        case rel =>
          have e : tlistL S (k + 1) = tlistL S k := by rw [HC.out, ht]; simp
          exact ⟨k + 1, A, c, by omega, by go_num, by rw [e], by rw [e]; exact hO, hB⟩
        case measure => simp [intOf]; omega
      · go_wp2_with fail
        refine (c_impl_tHas S _ _ HS.out).mono ?_
        rintro e w' ⟨rfl, rfl⟩
        rw [hv, Int.toNat_natCast, ht]
        go_wp2_with (at_builtin; refine appI rfl _ _ rfl (v := .slice A (tlistL S k).length c) rfl (hO.abv (Abv.alloc (Abv.refl 0 _) _) (Nat.zero_le _)) wr.heap.size _ rfl (cell_box wr _ _) (by omega) (by simp; have := hB.size; omega) ?_; intro g' c' w2 hO2 hg2 hB3)
        go_round
        case rel =>
          have e : tlistL S (k + 1) = tlistL S k ++ [(k : Int)] := by rw [HC.out, ht]; simp
          exact ⟨k + 1, some ⟨g', 0, none⟩, c', by omega, by go_num, by rw [e, List.length_append]; rfl, by rw [e]; simpa using hO2, Below.trans (bbox hB _) hB3⟩
        case measure => simp [intOf]; omega
    · obtain rfl : k = 9 := by omega
      go_wp2
      go_ret
      exact ⟨_, rfl, hO, hB⟩

--@ impl.AssertionTerms
set_option maxRecDepth 100000 in
set_option maxHeartbeats 3200000 in
theorem c_impl_AssertionTerms {lo hi : Nat} (v : Value) (a : Asn) (w : World) (h : AsnV w lo hi v a) :
    Calls Try.prog 34 #[v] w fun e w' => ∃ r, e = .returned r ∧ IntsO w' w.heap.size r (atermsL a) ∧ Below w.heap.size w w' := by
  have hV := Lib.hid h
  obtain ⟨A1, c1, A2, c2, rfl, -, -⟩ := h
  go_enter Try.func34, Try.ntmps34
  have k0 : Blk (w.alloc (.cells #[.slice A1 a.facts.length c1, .slice A2 a.atoms.length c2] tAs)) w.heap.size tAs #[.slice A1 a.facts.length c1, .slice A2 a.atoms.length c2] := blks
  go_wp2_with fail
  refine (c_impl_AssertionValid _ a _ (hV.out.below bel)).mono ?_
  rintro e w1 ⟨rfl, hB1⟩
  have hB : Below w.heap.size w w1 := bgo (w := w) bel hB1
  replace k0 := k0.next hB1
  (replace qk0 := k0.cell; replace rk0 := k0.frozen; replace lk0 := k0.lt)
  clear hB1
  have hz := hB.size
  cases ha : a.valid
  · have E : Hid (atermsL a = []) := by show _ = _; simp [atermsL, ha]
    clear ha
    go_wp2_with fail
    go_ret
    exact ⟨_, rfl, by rw [E.out]; exact IntsO.nil _ _, bel⟩
  · have E : Hid (atermsL a = tlistL (tset (termsL a)) 9) := by show _ = _; simp [atermsL, ha, tlistL]
    clear ha
    go_wp2_with fail
    refine (c_impl_termsIn _ a _ (hV.out.below hB)).mono ?_
    rintro e w2 ⟨rfl, hB2⟩
    replace hB := bgo hB hB2
    replace k0 := k0.next hB2
    clear hB2
    go_wp2_with fail
    refine (c_impl_termList (tset (termsL a)) _ (tset_lt _)).mono ?_
    rintro e w3 ⟨r, rfl, o3, hB3⟩
    have O3 := Lib.hid (o3.lower hB.size)
    replace hB := bgo hB hB3
    clear hB3 o3 k0 qk0 rk0 lk0
    go_wp2_with fail
    go_ret
    exact ⟨r, rfl, by rw [E.out]; exact O3.out, hB⟩

--@ laws.slHas
set_option maxRecDepth 100000 in
set_option maxHeartbeats 1600000 in
theorem c_slHas {lo hi : Nat} (A : Option Addr) (c : Nat) (fs : List Int) (n : Int) (w : World) (h : IntsV w lo hi A fs) : Calls Try.prog 35 #[.slice A fs.length c, .int .i64 n] w fun e w' => e = .returned (.bool (decide (n ∈ fs))) ∧ Below w.heap.size w w' := by
  have H := Lib.hid h
  have HL := Lib.hid h.le
  clear h
  go_enter Try.func35, Try.ntmps35
  go_wp2_with fail
  go_loopw [5] (fun i wr => ∃ k : Nat, k ≤ fs.length ∧ i = .int .i64 k ∧ Hid (decide (n ∈ fs) = decide (n ∈ fs.drop k)) ∧ Hid (Below w.heap.size w wr)) (fun i _ => fs.length - (intOf i).toNat)
  case atStart => exact ⟨0, Nat.zero_le _, rfl, by show _ = _; simp, Below.refl _ _⟩
  case round =>
    obtain ⟨k, hk, rfl, HA, HB⟩ := hrel
    have hl := HL.out
    by_cases hlt : k < fs.length
    · obtain ⟨b, off, rfl, g0⟩ := (H.out.below HB.out).at hlt
      have HD : Hid (decide (n ∈ fs.drop k) = (decide (fs[k] = n) || decide (n ∈ fs.drop (k + 1)))) := by
        show _ = _
        rw [List.drop_eq_getElem_cons hlt, ← Bool.decide_or, decide_eq_decide, List.mem_cons]
        constructor
        · rintro (h | h)
          · exact Or.inl h.symm
          · exact Or.inr h
        · rintro (h | h)
          · exact Or.inl h.symm
          · exact Or.inr h
      have hki : (k : Int) < (fs.length : Int) := by omega
      obtain ⟨f, hf⟩ : ∃ f, f = fs[k] := ⟨_, rfl⟩
      rw [← hf] at g0 HD
      clear hf
      by_cases f1 : f = n
      · have E : Hid (decide (f = n) = true) := by show _ = _; rw [decide_eq_true_eq]; exact f1
        rw [f1] at g0
        clear f1
        go_wp2_with fail
        go_ret
        exact ⟨ret_bool (by rw [HA.out, HD.out, E.out]; rfl), HB.out⟩
      · have E : Hid (decide (f = n) = false) := by show _ = _; rw [decide_eq_false_iff_not]; exact f1
        have e1 : (f == n) = false := by simpa using f1
        clear f1
        go_wp2_with fail
        go_round
        case rel => exact ⟨k + 1, by omega, by go_num, by show _ = _; rw [HA.out, HD.out, E.out]; rfl, HB.out⟩
        case measure => simp [intOf]; omega
    · obtain rfl : k = fs.length := by omega
      have E : Hid (decide (n ∈ fs) = false) := by show _ = _; rw [HA.out, List.drop_length]; simp
      go_wp2_with fail
      go_ret
      exact ⟨ret_bool E.out.symm, HB.out⟩
end Go.Proofs.Ytmjgcdolnkdfoaa

/- 'laws.FnEntailsCase' returns true for all bytes that can be read. -/
namespace Go.Proofs.Ytmjgcdolnkdfoaa
open Go Go.RowKit Go.Proofs
attribute [local go_sem ↓] Go.wp_at_zero Go.wp_at_succ

--@ laws.FnEntailsCase
theorem IntsO.at_ {w : World} {base G n c k : Nat} {fs : List Int} (h : IntsO w base (.slice (some ⟨G, 0, none⟩) n c) fs) (hk : k < fs.length) : w.cell? ⟨G, k, none⟩ = some (.int .i64 (cl fs k)) ∧ (∀ v : Int, IntsO (w.setCell ⟨G, k, none⟩ (.int .i64 v)) base (.slice (some ⟨G, 0, none⟩) n c) (fs.set k v)) := by
  obtain ⟨g, cur, -, e, -, kc, hc, hs⟩ := h.open_ hk
  injection e with e
  injection e with e
  subst e
  refine ⟨?_, hs⟩
  rw [kc.cell, hc]
  unfold cl
  rw [Int.toNat_natCast, List.getElem?_eq_getElem hk]; rfl
theorem IntsO.atB {w : World} {base G n c k : Nat} {fs : List Int} (h : IntsO w base (.slice (some ⟨G, 0, none⟩) n c) fs) (hk : k < fs.length) : (∀ i, w.frozen? ⟨G, i, none⟩ = false) ∧ G < w.heap.size ∧ base ≤ G := by
  obtain ⟨g, cur, -, e, hb, kc, hc, hs⟩ := h.open_ hk
  injection e with e
  injection e with e
  subst e
  exact ⟨kc.frozen, kc.lt, hb⟩
theorem ints_clE {w : World} {lo hi b o k : Nat} {fs : List Int} (h : IntsV w lo hi (some ⟨b, o, none⟩) fs) (hk : k < fs.length) : w.cell? ⟨b, o + k, none⟩ = some (.int .i64 (cl fs k)) := by
  rw [h.cl hk]
  unfold cl
  rw [Int.toNat_natCast, List.getElem?_eq_getElem hk]; rfl
theorem IntsV.frI {w w' : World} {g lo hi : Nat} {A : Option Addr} {fs : List Int} (h : IntsV w lo hi A fs) (hf : Fr g w w') (hg : g < lo ∨ hi ≤ g) : IntsV w' lo hi A fs := ⟨h.raw.fr hf hg, h.lim⟩
theorem c_slIntsE {lo hi lo' hi' : Nat} (A A' : Option Addr) (c c' n m : Nat) (fs gs : List Int) (w : World) (h : IntsV w lo hi A fs) (h' : IntsV w lo' hi' A' gs) (hm : fs.length = m) (hn : gs.length = n) : Calls Try.prog 18 #[.slice A m c, .slice A' n c'] w fun e w' => e = .returned (.bool (decide (fs = gs))) ∧ Below w.heap.size w w' := by
  have := c_slInts A A' c c' fs gs w h h'
  rwa [hn, hm] at this
theorem Fr.drewN' {g : Nat} {a b : World} (h : Fr g a b) (n : Nat) : Fr g a (b.drewN n) := h.go (below_drewN (Below.refl _ _) n)
theorem IntSSO.readsE {w : World} {b : Nat} {v : Value} {xss : List (List Int)} (h : IntSSO w b v xss) : xss.length ≤ 1049600 ∧ ∃ A c, v = .slice A xss.length c ∧ IntSSV w b w.heap.size A xss := by
  obtain ⟨vs, h⟩ := h
  obtain ⟨A, c, rfl⟩ := h.form
  exact ⟨by rw [← h.len]; exact h.lim, A, c, rfl, h.reads.2⟩
theorem mem_take_succE {L : List (List Int)} {k : Nat} (hk : k < L.length) (c : List Int) : decide (c ∈ L.take (k + 1)) = (decide (c ∈ L.take k) || decide (L[k] = c)) := by
  rw [List.take_succ_eq_append_getElem hk, Bool.eq_iff_iff]
  simp only [decide_eq_true_eq, Bool.or_eq_true, List.mem_append, List.mem_singleton]
  constructor
  · rintro (h | h)
    · exact Or.inl h
    · exact Or.inr h.symm
  · rintro (h | h)
    · exact Or.inl h
    · exact Or.inr h.symm
/-- after the rounds below t of the first loop -/
def own1 (cs : List Int) (S t : Nat) (d : List Int) : Prop := d.length = 9 ∧ ∀ j : Nat, j < 9 → cl d j = if j < t ∧ S.testBit j = false then -1 else cl cs j
theorem own1_set {cs d : List Int} {S t : Nat} (h : own1 cs S t d) (ht : t < 9) (hb : S.testBit t = false) : own1 cs S (t + 1) (d.set t (-1)) := by
  refine ⟨by simpa using h.1, fun j hj => ?_⟩
  rw [cl_set h.1 ht _ (by omega)]
  by_cases e : j = t
  · subst e; rw [if_pos rfl, if_pos ⟨by omega, hb⟩]
  · rw [if_neg (by omega), h.2 j hj]
    by_cases e2 : j < t ∧ S.testBit j = false
    · rw [if_pos e2, if_pos ⟨by omega, e2.2⟩]
    · rw [if_neg e2, if_neg (fun h => e2 ⟨by omega, h.2⟩)]
theorem own1_keep {cs d : List Int} {S t : Nat} (h : own1 cs S t d) (hb : S.testBit t = true) : own1 cs S (t + 1) d := by
  refine ⟨h.1, fun j hj => ?_⟩
  rw [h.2 j hj]
  by_cases e2 : j < t ∧ S.testBit j = false
  · rw [if_pos e2, if_pos ⟨by omega, e2.2⟩]
  · rw [if_neg e2, if_neg]
    rintro ⟨h1, h2⟩
    refine e2 ⟨?_, h2⟩
    rcases Nat.lt_or_ge j t with h3 | h3
    · exact h3
    · rw [show j = t from by omega, hb] at h2; cases h2
/-- after the rounds below t of the second loop -/
def own2 (cs : List Int) (S t : Nat) (d : List Int) : Prop := d.length = 9 ∧ ∀ j : Nat, j < 9 → cl d j = if j < t then caseAt (cl cs) S j else if S.testBit j then cl cs j else -1
theorem own2_start {cs d : List Int} {S : Nat} (h : own1 cs S 9 d) (h0 : S.testBit 0 = true) (hz : cl cs 0 = 0) : own2 cs S 1 d := by
  refine ⟨h.1, fun j hj => ?_⟩
  rw [h.2 j hj]
  by_cases e : j < 1
  · obtain rfl : j = 0 := by omega
    rw [if_neg (by rw [h0]; simp), if_pos (by omega)]
    have e0 : ((0 : Nat) : Int) = 0 := rfl
    rw [e0, hz]
    unfold caseAt
    rw [h0, if_pos rfl]
    have := (least_spec (M := cl cs) h0).1
    rw [show leastM (cl cs) S 0 = 0 from by omega]; rfl
  · rw [if_neg e]
    cases hb : S.testBit j
    · rw [if_pos ⟨hj, rfl⟩, if_neg (by decide)]
    · rw [if_neg (by simp), if_pos rfl]
/-- in the rounds below k of the inner loop at t -/
def own3 (cs : List Int) (S t k : Nat) (d : List Int) : Prop := d.length = 9 ∧ (∀ j : Nat, j < 9 → j ≠ t → cl d j = if j < t then caseAt (cl cs) S j else if S.testBit j then cl cs j else -1) ∧ (S.testBit t = false → cl d t = -1) ∧ (S.testBit t = true → (if k = 0 then cl d t = cl cs t else cl d t = t) ∧ ∀ j, j < k → S.testBit j = true → cl cs j ≠ cl cs t)
theorem own3_start {cs d : List Int} {S t : Nat} (h : own2 cs S t d) (ht : t < 9) : own3 cs S t 0 d := by
  refine ⟨h.1, fun j hj _ => h.2 j hj, fun hb => ?_, fun hb => ⟨?_, fun j hj => by omega⟩⟩
  · rw [h.2 t ht, if_neg (by omega), if_neg (by rw [hb]; decide)]
  · rw [if_pos rfl, h.2 t ht, if_neg (by omega), hb, if_pos rfl]
theorem own3_next {cs d : List Int} {S t k : Nat} (h : own3 cs S t k d) (ht : t < 9) (hb : S.testBit t = true) (hk : S.testBit k = true → cl cs k ≠ cl cs t) : own3 cs S t (k + 1) (d.set t t) := by
  refine ⟨by simpa using h.1, fun j hj hne => ?_, fun e => (by rw [hb] at e; cases e), fun _ => ⟨?_, fun j hj hbj => ?_⟩⟩
  · rw [cl_set h.1 ht _ (by omega), if_neg (by omega)]; exact h.2.1 j hj hne
  · rw [if_neg (by omega), cl_set h.1 ht _ (by omega), if_pos rfl]
  · rcases Nat.lt_or_ge j k with h1 | h1
    · exact (h.2.2.2 hb).2 j h1 hbj
    · rw [show j = k from by omega] at hbj ⊢; exact hk hbj
theorem own3_found {cs d : List Int} {S t k : Nat} (h : own3 cs S t k d) (ht : t < 9) (hkt : k < t) (hb : S.testBit t = true) (hk : S.testBit k = true) (hm : cl cs k = cl cs t) : own2 cs S (t + 1) (d.set t (cl d k)) := by
  have hne := (h.2.2.2 hb).2
  have e1 : leastM (cl cs) S t = k := least_is hk hb hm fun j hj hbj => hne j hj hbj
  have e2 : leastM (cl cs) S k = k := least_is hk hk rfl fun j hj hbj e => hne j hj hbj (e.trans hm)
  have e3 : cl d k = k := by
    rw [h.2.1 k (by omega) (by omega), if_pos hkt]
    unfold caseAt
    rw [hk, if_pos rfl, e2]
  refine ⟨by simpa using h.1, fun j hj => ?_⟩
  rw [cl_set h.1 ht _ (by omega), e3]
  by_cases e : j = t
  · subst e
    rw [if_pos rfl, if_pos (by omega)]
    unfold caseAt
    rw [hb, if_pos rfl, e1]
  · rw [if_neg (by omega), h.2.1 j hj e]
    by_cases e2 : j < t
    · rw [if_pos e2, if_pos (by omega)]
    · rw [if_neg e2, if_neg (show ¬ j < t + 1 from by omega)]
theorem own3_end {cs d : List Int} {S t k : Nat} (h : own3 cs S t k d) (ht : t < 9) (h1 : 1 ≤ t) (he : S.testBit t = true → k = t) : own2 cs S (t + 1) d := by
  refine ⟨h.1, fun j hj => ?_⟩
  by_cases e : j = t
  · subst e
    rw [if_pos (by omega)]
    unfold caseAt
    cases hb : S.testBit j
    · exact h.2.2.1 hb
    · obtain rfl := he hb
      have h2 := h.2.2.2 hb
      rw [if_neg (by omega)] at h2
      rw [if_pos rfl, h2.1, least_is hb hb rfl fun i hi hbi => h2.2 i hi hbi]
  · rw [h.2.1 j hj e]
    by_cases e2 : j < t
    · rw [if_pos e2, if_pos (by omega)]
    · rw [if_neg e2, if_neg (show ¬ j < t + 1 from by omega)]
theorem own2_end {cs d : List Int} {S : Nat} (h : own2 cs S 9 d) : d = canon (cl cs) S := canon_ext h.1 fun j hj => by rw [h.2 j hj, if_pos hj]
set_option maxRecDepth 100000 in
set_option maxHeartbeats 12800000 in
theorem c_FnEntailsCase (v : Value) (A : Option Addr × Nat × Nat) (w : World) (h : v = .slice A.1 A.2.1 A.2.2 ∧ BytesR w A.1 A.2.1 A.2.2) : Calls Try.prog 6 #[v] w fun e w' => e = .returned (.bool true) ∧ Below w.heap.size w w' := by
  obtain ⟨A, n, c⟩ := A
  obtain ⟨rfl, hR⟩ := h
  simp only at hR ⊢
  have HR := Lib.hid hR
  clear hR
  by_cases hn : 1048576 < n
  · have hni : (1048576 : Int) < (n : Int) := by omega
    clear hn
    go_enter Try.func6, Try.ntmps6
    go_wp2_with fail
    go_ret
    exact ⟨rfl, bel⟩
  have hni : ¬ (1048576 : Int) < (n : Int) := by omega
  clear hn
  go_enter Try.func6, Try.ntmps6
  go_wp2_with fail
  refine (c_DrawEntailsCase A n c _ HR.out).mono ?_
  rintro e w1 ⟨r1, r2, a, b, C, cs, cc, rfl, oa, ob, ocs, hB1⟩
  have HB1 := Lib.hid hB1
  have hav : AsnV w1 0 w1.heap.size r1 a := (AsnO.reads oa).mono (Nat.zero_le _) (Nat.le_refl _)
  have hbv : AsnV w1 0 w1.heap.size r2 b := (AsnO.reads ob).mono (Nat.zero_le _) (Nat.le_refl _)
  obtain ⟨F, f, G, g, rfl, -, -⟩ := id hav
  obtain ⟨F2, f2, G2, g2, rfl, -, -⟩ := id hbv
  have HA := Lib.hid hav
  have HBV := Lib.hid hbv
  have HCS := Lib.hid ocs
  have hcl : cs.length ≤ 1049600 := ocs.le
  clear hB1 oa ob hav hbv hni HR ocs
  obtain ⟨ka, kb⟩ := blk2 w1 tAs tAs #[.slice F a.facts.length f, .slice G a.atoms.length g] #[.slice F2 b.facts.length f2, .slice G2 b.atoms.length g2]
  have hBx : Below w1.heap.size w1 ((w1.alloc (.cells #[.slice F a.facts.length f, .slice G a.atoms.length g] tAs)).alloc (.cells #[.slice F2 b.facts.length f2, .slice G2 b.atoms.length g2] tAs)) := bbox (bbox (Below.refl _ _) _) _
  have lka := ka.lt
  have lkb := kb.lt
  have HAT : Hid (∀ W, Below w1.heap.size w1 W → AsnV W 0 w1.heap.size (.agg #[.slice F a.facts.length f, .slice G a.atoms.length g]) a) := fun W hW => HA.out.below hW
  have HBT : Hid (∀ W, Below w1.heap.size w1 W → AsnV W 0 w1.heap.size (.agg #[.slice F2 b.facts.length f2, .slice G2 b.atoms.length g2]) b) := fun W hW => HBV.out.below hW
  go_wp2_with fail
  generalize ((w1.alloc (.cells #[.slice F a.facts.length f, .slice G a.atoms.length g] tAs)).alloc (.cells #[.slice F2 b.facts.length f2, .slice G2 b.atoms.length g2] tAs)) = W2 at ka kb hBx lka lkb ⊢
  have HB2 := Lib.hid hBx
  clear hBx
  obtain ⟨q, hq⟩ : ∃ q, q = entC a b cs := ⟨_, rfl⟩
  have HQ := Lib.hid hq
  have hfi := c_impl_EntailsAny _ _ a b cs C cc _ (HAT.out _ HB2.out) (HBT.out _ HB2.out) (HCS.out.below HB2.out)
  rw [← hq] at hfi
  have HFI := Lib.hid hfi
  clear hfi hq
  refine HFI.out.mono ?_
  rintro e w3 ⟨rfl, hB3⟩
  have HB3 := Lib.hid (bgo HB2.out hB3)
  replace ka := ka.next hB3
  replace kb := kb.next hB3
  clear hB3 HB2 HFI
  (replace qka := ka.cell; replace rka := ka.frozen; replace lka := ka.lt; replace qkb := kb.cell; replace rkb := kb.frozen; replace lkb := kb.lt)
  go_wp2_with fail
  have hfs := c_spec_EntailsAny _ _ a b cs C cc _ (HAT.out _ HB3.out) (HBT.out _ HB3.out) (HCS.out.below HB3.out)
  rw [← HQ.out] at hfs
  have HFS := Lib.hid hfs
  clear hfs
  refine HFS.out.mono ?_
  rintro e w4 ⟨rfl, hB4⟩
  have HB4 := Lib.hid (bgo HB3.out hB4)
  replace ka := ka.next hB4
  replace kb := kb.next hB4
  clear hB4 HB3 HFS
  (replace qka := ka.cell; replace rka := ka.frozen; replace lka := ka.lt; replace qkb := kb.cell; replace rkb := kb.frozen; replace lkb := kb.lt)
  cases hqc : q
  · have HQF : Hid (entC a b cs = false) := by show _ = _; rw [← HQ.out, hqc]
    clear hqc HQ
    go_wp2_with fail
    have hfs := c_spec_EntailsAny _ _ a b cs C cc _ (HAT.out _ HB4.out) (HBT.out _ HB4.out) (HCS.out.below HB4.out)
    rw [HQF.out] at hfs
    have HFS := Lib.hid hfs
    clear hfs
    refine HFS.out.mono ?_
    rintro e w5 ⟨rfl, hB5⟩
    go_wp2_with fail
    go_ret
    exact ⟨rfl, bgo HB1.out (bgo HB4.out hB5)⟩
  have hqt : entC a b cs = true := by rw [← HQ.out, hqc]
  have HLAW := Lib.hid (entC_law hqt)
  obtain ⟨hva, hvb, hmem, -⟩ := entC_iff.1 hqt
  have hci := case_iff.1 hmem
  have HCI := Lib.hid hci
  have HVA := Lib.hid hva
  have H9 := Lib.hid hci.1
  have hcs9 := Lib.hid hci.1
  clear hqc hqt HQ hva hvb hmem hci
  go_wp2_with fail
  obtain ⟨q, hq⟩ : ∃ q, q = failB a b := ⟨_, rfl⟩
  obtain ⟨L, hL⟩ : ∃ L, L = failL a b := ⟨_, rfl⟩
  have HQ : Hid (q = true → decide (cs = L) = false) := fun h => by rw [decide_eq_false_iff_not, hL]; exact HLAW.out.2 (by rw [← hq, h])
  have hff := c_impl_FailingCase _ _ a b _ (HAT.out _ HB4.out) (HBT.out _ HB4.out) HB4.out.size HB4.out.size
  rw [← hq, ← hL] at hff
  have HFF := Lib.hid hff
  clear hff hq hL
  refine HFF.out.mono ?_
  rintro e w5 ⟨r5, rfl, o5, hB5⟩
  obtain ⟨A5, c5, rfl, f5⟩ := o5.reads
  have HL5 := Lib.hid f5
  have HB5 := Lib.hid (bgo HB4.out hB5)
  replace ka := ka.next hB5
  have lka5 := ka.lt
  clear hB5 HB4 HFF o5 f5 kb qkb rkb lkb HBT HBV
  have hw15 : w1.heap.size < w5.heap.size := ka.lt
  (replace qka := ka.cell; replace rka := ka.frozen; replace lka := ka.lt)
  go_wp2_with (at_builtin; refine appIL (ys := cs) (base := w5.heap.size) rfl _ _ rfl (v := .slice (some ⟨w5.heap.size, 0, none⟩) 0 0) rfl (IntsO.empty w5 rfl) rfl (HCS.out.below (bgo HB5.out (bbox (Below.refl _ _) _))) (by simp; omega) (by simp) ?_; intro A6 c6 w6 o6 hg6 hB6; rw [List.nil_append] at o6 ⊢; have hB6' : Below w5.heap.size w5 w6 := (bbox (Below.refl _ _) _).trans hB6; replace ka := ka.next hB6'; clear hg6 hB6; (replace qka := ka.cell; replace rka := ka.frozen; replace lka := ka.lt); rw [H9.out] at o6 ⊢)
  refine (c_impl_AssertionTerms _ a _ (HAT.out _ (bgo HB5.out hB6'))).mono ?_
  rintro e w7 ⟨r7, rfl, o7, hB7⟩
  obtain ⟨A7, c7, rfl, f7⟩ := o7.reads
  have HO7 := Lib.hid (o6.below hB7)
  obtain ⟨G6, _, -, rfl, hG6, -, -, -⟩ := o6.open_ (k := 0) (by rw [H9.out]; omega)
  have HT7 := Lib.hid f7
  have HB7 := Lib.hid (bgo HB5.out (bgo hB6' hB7))
  have HL7 := Lib.hid ((HL5.out.below (bgo hB6' hB7)))
  replace ka := ka.next hB7
  have lG6 := (o6.atB (k := 0) (by rw [H9.out]; omega)).2.1
  have hz56 := hB6'.size
  have hz67 := hB7.size
  clear o6 o7 f7 hB7 hB6' HB5 HL5 lka5
  (replace qka := ka.cell; replace rka := ka.frozen; replace lka := ka.lt)
  go_wp2_with fail
  have HPOS : Hid (∀ j : Nat, j < 9 → (caseS a 0).testBit j = true → 0 ≤ cl cs j) := fun j hj hb => by
    refine ((HCI.out.2.1 j hj).1 ?_).1.1
    rw [caseS_bit] at hb ⊢
    simp only [Nat.zero_testBit, Bool.or_false] at hb
    rw [hb]; rfl
  have HZ0 : Hid (cl cs 0 = 0) := by
    have h := ((HCI.out.2.1 0 (by omega)).1 (caseS_zero a _)).1
    have e : ((0 : Nat) : Int) = 0 := rfl
    rw [e] at h
    show _ = _
    omega
  have HBIT : Hid (∀ j : Nat, 1 ≤ j → j < 9 → decide ((j : Int) ∈ atermsL a) = (caseS a 0).testBit j) := fun j h1 h2 => aterms_bit HVA.out h1 h2
  have HS0 := Lib.hid (caseS_zero a 0)
  have HOWN : Hid (∀ d, own2 cs (caseS a 0) 9 d → d ∈ casesV a) := fun d hd => by
    unfold casesV
    rw [HVA.out, if_pos rfl, own2_end hd]
    exact HLAW.out.1
  obtain ⟨cb, co, rfl, -⟩ := HCS.out.at (k := 0) (by rw [H9.out]; omega)
  clear HCI HLAW H9 HVA qka rka lka
  have hG1 : w1.heap.size < G6 := by omega
  generalize caseS a 0 = S at HPOS HBIT HS0 HOWN
  go_loopw [11] (fun i wr => ∃ (t : Nat) (d : List Int), 1 ≤ t ∧ t ≤ 9 ∧ i = .int .i64 t ∧ Hid (own1 cs S t d) ∧ Hid (IntsO wr w5.heap.size (.slice (some ⟨G6, 0, none⟩) 9 c6) d) ∧ Hid (Fr G6 w7 wr)) (fun i _ => 9 - (intOf i).toNat)
  case atStart => exact ⟨1, cs, by omega, by omega, rfl, ⟨hcs9.out, fun j hj => (by rw [if_neg]; rintro ⟨h1, h2⟩; rw [show j = 0 from (by omega), HS0.out] at h2; cases h2)⟩, HO7.out, Fr.refl _ _⟩
  case round =>
    clear HO7
    obtain ⟨t, d, ht1, ht9, rfl, HD, HO, HF⟩ := hrel
    by_cases ht : t < 9
    · have hti : (t : Int) ≤ 8 := by omega
      have hti9 : (t : Int) < 9 := by omega
      go_wp2_with fail
      refine (c_slHas A7 c7 (atermsL a) (t : Int) _ (HT7.out.frI HF.out (Or.inl lG6))).mono ?_
      rintro e w8 ⟨rfl, hB8⟩
      rw [HBIT.out t ht1 ht]
      have HO8 := Lib.hid (HO.out.below hB8)
      have HF8 := Lib.hid (HF.out.go hB8)
      clear hB8 HO HF
      cases hb : S.testBit t
      · obtain ⟨qo, hso⟩ := HO8.out.at_ (k := t) (by rw [HD.out.1]; exact ht)
        obtain ⟨ro, lo, -⟩ := HO8.out.atB (k := t) (by rw [HD.out.1]; exact ht)
        have HN := Lib.hid (own1_set HD.out ht hb)
        have HSO := Lib.hid (hso (-1))
        have HF9 := Lib.hid (HF8.out.set_ (p := ⟨G6, t, none⟩) (Or.inl rfl) (.int .i64 (-1)))
        clear hb hso
        go_wp2_with fail
        go_round
        case rel => exact ⟨t + 1, d.set t (-1), by omega, by omega, by go_num, HN.out, HSO.out, HF9.out⟩
        case measure => simp [intOf]; omega
      · have HN := Lib.hid (own1_keep HD.out hb)
        clear hb
        go_wp2_with fail
        go_round
        case rel => exact ⟨t + 1, d, by omega, by omega, by go_num, HN.out, HO8.out, HF8.out⟩
        case measure => simp [intOf]; omega
    · obtain rfl : t = 9 := by omega
      have HD2 := Lib.hid (own2_start HD.out HS0.out HZ0.out)
      clear HD
      go_wp2_with fail
      go_loopw [12] (fun i wr => ∃ (t : Nat) (d : List Int), 1 ≤ t ∧ t ≤ 9 ∧ i = .int .i64 t ∧ Hid (own2 cs S t d) ∧ Hid (IntsO wr w5.heap.size (.slice (some ⟨G6, 0, none⟩) 9 c6) d) ∧ Hid (Fr G6 w7 wr)) (fun i _ => 9 - (intOf i).toNat)
      case atStart => exact ⟨1, d, by omega, by omega, rfl, HD2.out, HO.out, HF.out⟩
      case round =>
        clear HD2 HO HF
        obtain ⟨t, d, ht1, ht9, rfl, HD, HO, HF⟩ := hrel
        by_cases ht : t < 9
        · have hti : (t : Int) ≤ 8 := by omega
          have hti9 : (t : Int) < 9 := by omega
          have HD3 := Lib.hid (own3_start HD.out ht)
          clear HD
          go_wp2_with fail
          go_loopw [13] (fun i wr => ∃ (k : Nat) (d : List Int), k ≤ t ∧ i = .int .i64 k ∧ Hid (own3 cs S t k d) ∧ Hid (IntsO wr w5.heap.size (.slice (some ⟨G6, 0, none⟩) 9 c6) d) ∧ Hid (Fr G6 w7 wr)) (fun i _ => t + 1 - (intOf i).toNat)
          case atStart => exact ⟨0, d, by omega, rfl, HD3.out, HO.out, HF.out⟩
          case round =>
            clear HD3 HO HF
            obtain ⟨k, d, hkt, rfl, HD, HO, HF⟩ := hrel
            have H9d := Lib.hid HD.out.1
            obtain ⟨qt, hst⟩ := HO.out.at_ (k := t) (by rw [H9d.out]; exact ht)
            obtain ⟨ro, lo, -⟩ := HO.out.atB (k := t) (by rw [H9d.out]; exact ht)
            have HST := Lib.hid hst
            clear hst
            cases hb : S.testBit t
            · have HX := Lib.hid (HD.out.2.2.1 hb)
              have HN := Lib.hid (own3_end HD.out ht ht1 (fun h => by rw [hb] at h; cases h))
              rw [HX.out] at qt
              clear hb
              by_cases hk : k < t
              · have hki : (k : Int) < (t : Int) := by omega
                go_wp2_with fail
                go_round
                case rel => exact ⟨t + 1, d, by omega, by omega, by go_num, HN.out, HO.out, HF.out⟩
                case measure => simp [intOf]; omega
              · have hki : ¬ ((k : Int) < (t : Int)) := by omega
                go_wp2_with fail
                go_round
                case rel => exact ⟨t + 1, d, by omega, by omega, by go_num, HN.out, HO.out, HF.out⟩
                case measure => simp [intOf]; omega
            · have HBT := Lib.hid hb
              by_cases hk : k < t
              rotate_left
              · have hki : ¬ ((k : Int) < (t : Int)) := by omega
                have HN := Lib.hid (own3_end HD.out ht ht1 (fun _ => by omega))
                clear hb
                go_wp2_with fail
                go_round
                case rel => exact ⟨t + 1, d, by omega, by omega, by go_num, HN.out, HO.out, HF.out⟩
                case measure => simp [intOf]; omega
              have hki : (k : Int) < (t : Int) := by omega
              have hki9 : (k : Int) < 9 := by omega
              have hx0 : 0 ≤ cl d t := by
                have h := (HD.out.2.2.2 hb).1
                split at h
                · rw [h]; exact HPOS.out t ht hb
                · rw [h]; omega
              obtain ⟨x, hx⟩ : ∃ x, x = cl d t := ⟨_, rfl⟩
              rw [← hx] at qt hx0
              have hd0 : decide (0 ≤ x) = true := decide_eq_true hx0
              obtain ⟨qk, -⟩ := HO.out.at_ (k := k) (by rw [H9d.out]; omega)
              have hcv := HCS.out.below (HB7.out.trans (HF.out.below (by omega) (by omega)))
              have ck := ints_clE hcv (k := k) (by rw [hcs9.out]; omega)
              have ct := ints_clE hcv (k := t) (by rw [hcs9.out]; omega)
              have hyk : cl d k = if S.testBit k then ((leastM (cl cs) S k : Nat) : Int) else -1 := by
                have h := HD.out.2.1 k (by omega) (by omega)
                rw [if_pos hk] at h; exact h
              obtain ⟨y, hy⟩ : ∃ y, y = cl d k := ⟨_, rfl⟩
              rw [← hy] at qk hyk
              obtain ⟨u, hu⟩ : ∃ u, u = cl cs k := ⟨_, rfl⟩
              obtain ⟨z, hz⟩ : ∃ z, z = cl cs t := ⟨_, rfl⟩
              rw [← hu] at ck
              rw [← hz] at ct
              clear hx hcv
              cases hbk : S.testBit k
              · have hy1 : y = -1 := by rw [hyk, hbk]; rfl
                subst hy1
                have HN := Lib.hid (own3_next HD.out ht hb (fun h => by rw [hbk] at h; cases h))
                clear hb hbk hyk hy hu hz
                go_wp2_with fail
                go_quiet (fail)
                go_wp2_with fail
                go_round
                case rel => exact ⟨k + 1, d.set t t, by omega, by go_num, HN.out, ((HO.out.below (below_drewN (Below.refl _ _) _)).at_ (k := t) (by rw [H9d.out]; exact ht)).2 _, (HF.out.drewN' _).set_ (Or.inl rfl) _⟩
                case measure => simp [intOf]; omega
              · have hy0 : 0 ≤ y := by rw [hyk, hbk, if_pos rfl]; omega
                have hdy : decide (0 ≤ y) = true := decide_eq_true hy0
                by_cases huz : u = z
                · have hm : cl cs k = cl cs t := by rw [← hu, ← hz, huz]
                  have HN := Lib.hid (own3_found HD.out ht hk hb hbk hm)
                  rw [← hy] at HN
                  have hbz : (u == z) = true := by simpa using huz
                  clear hb hbk hyk hy hu hz hm huz
                  go_wp2_with fail
                  go_quiet (fail)
                  go_wp2_with fail
                  go_round
                  case rel => exact ⟨t + 1, d.set t y, by omega, by omega, by go_num, HN.out, ((HO.out.below (below_drewN (Below.refl _ _) _)).at_ (k := t) (by rw [H9d.out]; exact ht)).2 _, (HF.out.drewN' _).set_ (Or.inl rfl) _⟩
                  case measure => simp [intOf]; omega
                · have HN := Lib.hid (own3_next HD.out ht hb (fun _ e => huz (by rw [hu, hz, e])))
                  have hbz : (u == z) = false := by simpa using huz
                  clear hb hbk hyk hy hu hz huz
                  go_wp2_with fail
                  go_quiet (fail)
                  go_wp2_with fail
                  go_round
                  case rel => exact ⟨k + 1, d.set t t, by omega, by go_num, HN.out, ((HO.out.below (below_drewN (Below.refl _ _) _)).at_ (k := t) (by rw [H9d.out]; exact ht)).2 _, (HF.out.drewN' _).set_ (Or.inl rfl) _⟩
                  case measure => simp [intOf]; omega
        · obtain rfl : t = 9 := by omega
          have HM := Lib.hid (HOWN.out d HD.out)
          have HD9 := Lib.hid HD.out.1
          have HB8 : Hid (Below w1.heap.size w1 wr) := HB7.out.trans (HF.out.below (by omega) (by omega))
          replace ka := ka.fr HF.out (by omega)
          have HOD := Lib.hid (IntsO.readsI HO.out).2
          clear HD
          (replace qka := ka.cell; replace rka := ka.frozen; replace lka := ka.lt)
          go_wp2_with fail
          refine (c_impl_CasesOf _ a _ (HAT.out _ HB8.out) HB8.out.size).mono ?_
          rintro e w9 ⟨r9, rfl, o9, hB9⟩
          obtain ⟨hXl, A9, c9, rfl, f9⟩ := IntSSO.readsE o9.1
          have HX9 := Lib.hid f9
          have HOD9 := Lib.hid (HOD.out.below hB9)
          have HB9 := Lib.hid (bgo HB8.out hB9)
          have HL9 := Lib.hid ((HL7.out.frI HF.out (by omega)).below hB9)
          obtain ⟨X, hX⟩ : ∃ X, X = casesV a := ⟨_, rfl⟩
          rw [← hX] at HX9 HM hXl ⊢
          clear o9 f9 hB9 hX qka rka lka ka HO HF HOD HB8
          go_wp2_with fail
          go_loopw [14, 16] (fun b i wr => ∃ k : Nat, k ≤ X.length ∧ i = .int .i64 k ∧ b = .bool (decide (d ∈ X.take k)) ∧ Hid (Below w9.heap.size w9 wr)) (fun _ i _ => X.length - (intOf i).toNat)
          case atStart => exact ⟨0, Nat.zero_le _, rfl, by simp, Below.refl _ _⟩
          case round =>
            obtain ⟨k, hk, rfl, rfl, HB⟩ := hrel
            by_cases hlt : k < X.length
            · have hki : (k : Int) < (X.length : Int) := by omega
              obtain ⟨xb, xo, XB, xc, rfl, hxl, hx, hxv⟩ := (HX9.out.below HB.out).at hlt
              have HST := Lib.hid (mem_take_succE hlt d)
              obtain ⟨x, hxe⟩ : ∃ x, x = X[k] := ⟨_, rfl⟩
              rw [← hxe] at hx hxv HST
              have HXV := Lib.hid hxv
              clear hxe hxv
              cases hb : decide (d ∈ X.take k)
              · rw [hb, Bool.false_or] at HST
                clear hb
                go_wp2_with fail
                refine (c_slIntsE XB (some ⟨G6, 0, none⟩) xc c6 9 _ x d _ HXV.out (HOD9.out.below HB.out) rfl HD9.out).mono ?_
                rintro e w10 ⟨rfl, hB10⟩
                go_wp2_with fail
                go_round
                case rel => exact ⟨k + 1, by omega, by go_num, by rw [HST.out], bgo HB.out hB10⟩
                case measure => simp [intOf]; omega
              · rw [hb, Bool.true_or] at HST
                clear hb
                go_wp2_with fail
                go_round
                case rel => exact ⟨k + 1, by omega, by go_num, by rw [HST.out], HB.out⟩
                case measure => simp [intOf]; omega
            · obtain rfl : k = X.length := by omega
              rw [List.take_length, decide_eq_true HM.out]
              cases hqc : q
              · clear hqc HQ
                go_wp2_with fail
                go_ret
                exact ⟨rfl, bgo HB1.out (bgo HB9.out HB.out)⟩
              · have HNE := Lib.hid (HQ.out hqc)
                clear hqc HQ
                go_wp2_with fail
                refine (c_slIntsE (some ⟨cb, co, none⟩) A5 cc c5 L.length 9 cs L _ (HCS.out.below (bgo HB9.out HB.out)) (HL9.out.below HB.out) hcs9.out rfl).mono ?_
                rintro e w10 ⟨rfl, hB10⟩
                rw [HNE.out]
                go_wp2_with fail
                go_ret
                exact ⟨rfl, bgo HB1.out (bgo (bgo HB9.out HB.out) hB10)⟩
end Go.Proofs.Ytmjgcdolnkdfoaa
