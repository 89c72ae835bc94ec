/- 'laws.FnModelOf' returns true for all bytes that can be read. -/
import Derived.Test.YtmjgcdolnkdfoaaMDrawK
import Derived.Test.YtmjgcdolnkdfoaaMCaseO
import Derived.Test.YtmjgcdolnkdfoaaMCasesOf
import Derived.Test.YtmjgcdolnkdfoaaSlInts
set_option linter.unusedSimpArgs false
set_option linter.unusedVariables false
namespace Go.Proofs.Ytmjgcdolnkdfoaa
open Go Go.RowKit Go.Proofs
attribute [local go_sem ↓] Go.wp_at_zero Go.wp_at_succ

--@ laws.FnModelOf
theorem StateO.tightM {w : World} {b : Nat} {v : Value} {s : Ste} (h : StateO w b v s) : StateV w 0 w.heap.size v s := by
  obtain ⟨fv, av, rfl, h1, h2, -⟩ := h
  obtain ⟨A, c, rfl, r1⟩ := h1.reads
  obtain ⟨B, d, rfl, r2⟩ := h2.reads
  exact ⟨A, c, B, d, rfl, r1.mono (Nat.zero_le _) (Nat.le_refl _), r2.mono (Nat.zero_le _) (Nat.le_refl _)⟩
theorem IntSSO.readsM {w : World} {b : Nat} {v : Value} {xss : List (List Int)} (h : IntSSO w b v xss) : ∃ A c, v = .slice A xss.length c ∧ IntSSV w b w.heap.size A xss := by
  obtain ⟨vs, h⟩ := h
  obtain ⟨A, c, rfl⟩ := h.form
  exact ⟨A, c, rfl, h.reads.2⟩
theorem c_slIntsM {lo hi lo' hi' : Nat} (A A' : Option Addr) (c c' : Nat) (fs : List Int) (w : World) (h : IntsV w lo hi A fs) (h' : IntsV w lo' hi' A' fs) : Calls Try.prog 18 #[.slice A fs.length c, .slice A' fs.length c'] w fun e w' => e = .returned (.bool true) ∧ Below w.heap.size w w' := by
  have := c_slInts A A' c c' fs fs w h h'
  rwa [decide_eq_true (Eq.refl fs)] at this
theorem model_facts {a : Asn} (h : consB a = true) : (modelR a).valid = true ∧ a.valid = true ∧ holdsF (modelR a) a = true ∧ ∃ cs, casesV a = caseOfL (modelR a) a :: cs := by
  have e : modelR a = modelL a := by unfold modelR; rw [h]; rfl
  obtain ⟨h1, h2, c, cs, h3, h4⟩ := modelL_law h
  rw [e]
  have hs := (case_of_law h2).1
  refine ⟨hs, h1, h2, cs, ?_⟩
  unfold casesV caseOfL
  rw [h1, hs, if_pos rfl, h3, if_pos (by decide), h4]
set_option maxRecDepth 100000 in
set_option maxHeartbeats 6400000 in
theorem c_FnModelOf (v : Value) (A : Option Addr × Nat × Nat) (w : World) (h : v = .slice A.1 A.2.1 A.2.2 ∧ BytesR w A.1 A.2.1 A.2.2) : Calls Try.prog 5 #[v] w fun e w' => e = .returned (.bool true) ∧ Below w.heap.size w w' := by
  obtain ⟨A, n, c⟩ := A
  obtain ⟨rfl, hR⟩ := h
  simp only at hR ⊢
  have HR := Lib.hid hR
  clear hR
  by_cases hn : 1048576 < n
  · have hni : (1048576 : Int) < (n : Int) := by omega
    clear hn
    go_enter Try.func5, Try.ntmps5
    go_wp2_with fail
    go_ret
    exact ⟨rfl, bel⟩
  have hni : ¬ (1048576 : Int) < (n : Int) := by omega
  clear hn
  go_enter Try.func5, Try.ntmps5
  go_wp2_with fail
  refine (c_DrawModelOf A n c _ HR.out).mono ?_
  rintro e w1 ⟨r1, a, rfl, oa, hB1⟩
  have HB1 := Lib.hid hB1
  have hav : AsnV w1 0 w1.heap.size r1 a := (AsnO.reads oa).mono (Nat.zero_le _) (Nat.le_refl _)
  obtain ⟨F, f, G, g, rfl, -, -⟩ := id hav
  have HA := Lib.hid hav
  clear hB1 oa hav hni HR
  have HAT : Hid (∀ W, Below w1.heap.size w1 W → AsnV W 0 w1.heap.size (.agg #[.slice F a.facts.length f, .slice G a.atoms.length g]) a) := fun W hW => HA.out.below hW
  have ka : Blk (w1.alloc (.cells #[.slice F a.facts.length f, .slice G a.atoms.length g] tAs)) w1.heap.size tAs #[.slice F a.facts.length f, .slice G a.atoms.length g] := Blk.new _ _ _
  have hBx : Below w1.heap.size w1 (w1.alloc (.cells #[.slice F a.facts.length f, .slice G a.atoms.length g] tAs)) := bbox (Below.refl _ _) _
  obtain ⟨q, hq⟩ : ∃ q, q = consB a := ⟨_, rfl⟩
  obtain ⟨s, hs⟩ : ∃ s, s = modelR a := ⟨_, rfl⟩
  have HQ := Lib.hid hq
  have HSE := Lib.hid hs
  have HI : Hid (∀ W : World, Below w1.heap.size w1 W → Calls Try.prog 29 #[.agg #[.slice F a.facts.length f, .slice G a.atoms.length g]] W fun e w' => ∃ r, e = .returned (.tuple #[r, .bool q]) ∧ StateO w' W.heap.size r s ∧ Below W.heap.size W w') := fun W hW => by
    rw [hq, hs]; exact c_impl_ModelOf _ a W (HAT.out W hW) hW.size
  have HS : Hid (∀ W : World, Below w1.heap.size w1 W → Calls Try.prog 30 #[.agg #[.slice F a.facts.length f, .slice G a.atoms.length g]] W fun e w' => ∃ r, e = .returned (.tuple #[r, .bool q]) ∧ StateO w' W.heap.size r s ∧ Below W.heap.size W w') := fun W hW => by
    rw [hq, hs]; exact c_spec_ModelOf _ a W (HAT.out W hW)
  have HCON : Hid (∀ W : World, Below w1.heap.size w1 W → Calls Try.prog 27 #[.agg #[.slice F a.facts.length f, .slice G a.atoms.length g]] W fun e w' => e = .returned (.bool q) ∧ Below W.heap.size W w') := fun W hW => by
    rw [hq]; exact c_impl_Consistent _ a W (HAT.out W hW) hW.size
  clear hq hs
  have lka := ka.lt
  go_wp2_with fail
  generalize (w1.alloc (.cells #[.slice F a.facts.length f, .slice G a.atoms.length g] tAs)) = W2 at ka hBx lka ⊢
  refine (HI.out _ hBx).mono ?_
  rintro e w3 ⟨r3, rfl, o3, hB3⟩
  have hsv := o3.tightM
  obtain ⟨SA, sc, SB, sd, rfl, -, -⟩ := id hsv
  have HSV := Lib.hid (hsv.below (bbox (Below.refl _ _) (.cells #[.slice SA s.values.length sc, .slice SB s.heap.length sd] tSt)))
  have HB3 : Hid (Below w1.heap.size w1 (w3.alloc (.cells #[.slice SA s.values.length sc, .slice SB s.heap.length sd] tSt))) := bbox (bgo hBx hB3) _
  have hzw := hB3.size
  replace ka := ka.next hB3
  have lka3 := ka.lt
  clear hsv o3 hBx hB3 lka HI
  (replace qka := ka.cell; replace rka := ka.frozen; replace lka := ka.lt)
  go_wp2_with fail
  have ks : Blk (w3.alloc (.cells #[.slice SA s.values.length sc, .slice SB s.heap.length sd] tSt)) w3.heap.size tSt #[.slice SA s.values.length sc, .slice SB s.heap.length sd] := Blk.new _ _ _
  replace ka := ka.alloc (.cells #[.slice SA s.values.length sc, .slice SB s.heap.length sd] tSt)
  generalize hX3 : w3.heap.size = X3 at ks lka3 ⊢
  have lks := ks.lt
  clear hX3
  generalize (w3.alloc (.cells #[.slice SA s.values.length sc, .slice SB s.heap.length sd] tSt)) = W3 at ks ka HSV HB3 lks ⊢
  refine (HS.out _ HB3.out).mono ?_
  rintro e w4 ⟨r4, rfl, o4, hB4⟩
  have htv := o4.tightM
  obtain ⟨TA, tc, TB, td, rfl, -, -⟩ := id htv
  have HTV := Lib.hid (htv.below (bbox (Below.refl _ _) (.cells #[.slice TA s.values.length tc, .slice TB s.heap.length td] tSt)))
  have HB4 : Hid (Below w1.heap.size w1 (w4.alloc (.cells #[.slice TA s.values.length tc, .slice TB s.heap.length td] tSt))) := bbox (bgo HB3.out hB4) _
  replace HSV := Lib.hid (HSV.out.below (bbox hB4 (.cells #[.slice TA s.values.length tc, .slice TB s.heap.length td] tSt)))
  replace ka := ka.next hB4
  replace ks := ks.next hB4
  have lks4 := ks.lt
  have lka4 := ka.lt
  have hne : (q != q) = false := by cases q <;> rfl
  have heq : (q == q) = true := by cases q <;> rfl
  clear htv o4 HB3 hB4 HS lks qka rka lka
  (replace qka := ka.cell; replace rka := ka.frozen; replace lka := ka.lt; replace qks := ks.cell; replace rks := ks.frozen; replace lks := ks.lt)
  go_wp2_with fail
  have kt : Blk (w4.alloc (.cells #[.slice TA s.values.length tc, .slice TB s.heap.length td] tSt)) w4.heap.size tSt #[.slice TA s.values.length tc, .slice TB s.heap.length td] := Blk.new _ _ _
  replace ka := ka.alloc (.cells #[.slice TA s.values.length tc, .slice TB s.heap.length td] tSt)
  replace ks := ks.alloc (.cells #[.slice TA s.values.length tc, .slice TB s.heap.length td] tSt)
  generalize hX4 : w4.heap.size = X4 at kt lks4 lka4 ⊢
  clear hX4 qka rka lka qks rks lks
  generalize (w4.alloc (.cells #[.slice TA s.values.length tc, .slice TB s.heap.length td] tSt)) = W4 at kt ks ka HSV HTV HB4 ⊢
  refine (c_impl_StateSameT _ _ s _ HSV.out HTV.out).mono ?_
  rintro e w5 ⟨rfl, hB5⟩
  have HB5 := Lib.hid (bgo HB4.out hB5)
  replace HSV := Lib.hid (HSV.out.below hB5)
  replace HTV := Lib.hid (HTV.out.below hB5)
  replace ka := ka.next hB5
  replace ks := ks.next hB5
  replace kt := kt.next hB5
  clear hB5 HB4
  (replace qka := ka.cell; replace rka := ka.frozen; replace lka := ka.lt; replace qks := ks.cell; replace rks := ks.frozen; replace lks := ks.lt; replace qkt := kt.cell; replace rkt := kt.frozen; replace lkt := kt.lt)
  go_wp2_with fail
  refine (HCON.out _ HB5.out).mono ?_
  rintro e w6 ⟨rfl, hB6⟩
  have HB6 := Lib.hid (bgo HB5.out hB6)
  replace HSV := Lib.hid (HSV.out.below hB6)
  replace HTV := Lib.hid (HTV.out.below hB6)
  replace ka := ka.next hB6
  replace ks := ks.next hB6
  replace kt := kt.next hB6
  clear hB6 HB5
  (replace qka := ka.cell; replace rka := ka.frozen; replace lka := ka.lt; replace qks := ks.cell; replace rks := ks.frozen; replace lks := ks.lt; replace qkt := kt.cell; replace rkt := kt.frozen; replace lkt := kt.lt)
  cases hqc : q
  · rw [hqc] at HCON
    clear hqc HQ HSE hne heq
    go_wp2_with fail
    refine (c_impl_StateSameT _ _ s _ HSV.out HTV.out).mono ?_
    rintro e w7 ⟨rfl, hB7⟩
    have HB7 := Lib.hid (bgo HB6.out hB7)
    replace ka := ka.next hB7
    clear hB7 HB6 ks kt qks rks lks qkt rkt lkt
    (replace qka := ka.cell; replace rka := ka.frozen; replace lka := ka.lt)
    go_wp2_with fail
    refine (HCON.out _ HB7.out).mono ?_
    rintro e w8 ⟨rfl, hB8⟩
    go_wp2_with fail
    go_ret
    exact ⟨rfl, bgo HB1.out (bgo HB7.out hB8)⟩
  · have hc : consB a = true := by rw [← HQ.out, hqc]
    obtain ⟨h1, h2, h3, cs, h4⟩ := model_facts hc
    rw [← HSE.out] at h1 h3 h4
    have HVS := Lib.hid h1
    have HVA := Lib.hid h2
    have HHO := Lib.hid h3
    have HCS := Lib.hid h4
    clear hqc HQ HSE hne heq hc h1 h2 h3 h4 HCON HTV kt qkt rkt lkt
    go_wp2_with fail
    refine (c_impl_CaseOf _ _ s a _ HSV.out (HAT.out _ HB6.out)).mono ?_
    rintro e w7 ⟨r7, rfl, o7, hB7⟩
    rw [HVS.out, HVA.out]
    obtain ⟨A7, c7, rfl, f7⟩ := o7.reads
    have HL7 := Lib.hid f7
    have HB7 := Lib.hid (bgo HB6.out hB7)
    replace HSV := Lib.hid (HSV.out.below hB7)
    replace ka := ka.next hB7
    replace ks := ks.next hB7
    clear hB7 HB6 o7 f7
    (replace qka := ka.cell; replace rka := ka.frozen; replace lka := ka.lt; replace qks := ks.cell; replace rks := ks.frozen; replace lks := ks.lt)
    go_wp2_with fail
    refine (c_impl_Holds _ _ s a _ HSV.out (HAT.out _ HB7.out)).mono ?_
    rintro e w8 ⟨rfl, hB8⟩
    rw [HHO.out]
    have HB8 := Lib.hid (bgo HB7.out hB8)
    replace HL7 := Lib.hid (HL7.out.below hB8)
    replace ka := ka.next hB8
    clear hB8 HB7 ks qks rks lks
    (replace qka := ka.cell; replace rka := ka.frozen; replace lka := ka.lt)
    go_wp2_with fail
    refine (c_impl_CasesOf _ a _ (HAT.out _ HB8.out) HB8.out.size).mono ?_
    rintro e w9 ⟨r9, rfl, o9, hB9⟩
    obtain ⟨A9, c9, rfl, f9⟩ := IntSSO.readsM o9.1
    replace HL7 := Lib.hid (HL7.out.below hB9)
    have HB9 := Lib.hid (bgo HB8.out hB9)
    rw [HCS.out] at f9 ⊢
    obtain ⟨xb, xo, XB, xc, rfl, hxl, hx, hxv⟩ := f9.at (k := 0) (by simp)
    simp only [List.getElem_cons_zero, Nat.add_zero] at hx hxv
    have HXV := Lib.hid hxv
    have hlen : 0 < cs.length + 1 := by omega
    have hleni : (0 : Int) < ((cs.length + 1 : Nat) : Int) := by omega
    clear f9 o9 hB9 HB8 hxv
    go_wp2_with fail
    refine (c_slIntsM A7 XB c7 xc _ _ HL7.out HXV.out).mono ?_
    rintro e w10 ⟨rfl, hB10⟩
    go_wp2_with fail
    go_ret
    exact ⟨rfl, bgo HB1.out (bgo HB9.out hB10)⟩
end Go.Proofs.Ytmjgcdolnkdfoaa
