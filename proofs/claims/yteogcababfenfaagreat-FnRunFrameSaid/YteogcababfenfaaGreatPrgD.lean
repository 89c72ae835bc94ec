/- Contracts: commands from lines (spec.l8Block), the step. -/
import Derived.Test.YteogcababfenfaaGreatMPrgC
set_option linter.unusedSimpArgs false
set_option linter.unusedVariables false
namespace Go.Proofs.YteogcababfenfaaGreat
open Go Go.RowKit Go.Proofs
--@ spec.l8Block
set_option maxRecDepth 100000 in
set_option maxHeartbeats 12800000 in
theorem l8Block_succ (d : Nat) (hd : d ≤ 9) (IH : BlkOk d) : BlkOk (d + 1) := by
    intro lo hi A c ls p n w hV hS hL hp hn
    replace IH := Lib.hid (fun lo hi A c p n w hV => IH lo hi A c ls p n w hV hS hL)
    have HV := Lib.hid hV
    have HS := Lib.hid hS
    obtain ⟨R, hR⟩ : ∃ R, R = blkF ls n p (d + 1) := ⟨_, rfl⟩
    have hst : Hid (blkSt ls (d + 1) R .nil (some p)) := Lib.hid (by rw [hR]; exact blkSt.start n hn)
    rw [← hR]
    clear hV hS hn hR
    go_enter Tryz.func119, Tryz.ntmps119
    have hN0 := CmsN.empty w (Nat.le_refl _)
    go_wp2_with fail
    go_loopg [1, 8] (ls.length + 12) (fun gh s1 s8 wr => ∃ (acc : Cms) (nx : Option Nat), s1 = .int .i64 (atI nx) ∧ Hid (CmsN wr w.heap.size s8 acc) ∧ Hid (blkSt ls (d + 1) R acc nx) ∧ acc.len ≤ ls.length + d + 1 ∧ Hid (∀ q, nx = some q → acc.len ≤ q ∧ q ≤ ls.length + d + 1 ∧ ls.length + 12 ≤ gh + q) ∧ Hid (Below w.heap.size w wr))
    case atStart => exact ⟨.nil, some p, rfl, Lib.hid hN0, hst, by simp [Cms.len], Lib.hid (fun q e => by injection e with e; subst e; simp [Cms.len]; omega), Lib.hid (bbox (Below.refl _ _) _)⟩
    case round =>
      clear hN0 hst
      obtain ⟨acc, nx, rfl, hN, hst, hal, hnx, HB⟩ := hrel
      have hz := HB.out.size
      obtain ⟨A5, c5, rfl, -⟩ := hN.out.reads
      have hOL := Lib.hid hN.out.own_lt
      cases nx with
      | none =>
        have hE := Lib.hid hst.out
        have hf : Hid (R.2 = none) := Lib.hid hE.out.2
        have ha : Hid (acc = R.1) := Lib.hid hE.out.1
        have hm1 : atI none = -1 := rfl
        rw [hm1]
        clear hE hst hnx
        go_wp2_with fail
        refine bodyPost_ret (v := .tuple #[.slice A5 acc.len c5, .int .i64 (-1)]) (by simp [results, Tryz.results119, go_sem]) rfl ⟨_, by rw [hf.out]; rfl, by rw [← ha.out]; exact hN.out, HB.out⟩
      | some q =>
        obtain ⟨hq1, hq2, hq3⟩ := hnx.out q rfl
        have hqi : atI (some q) = (q : Int) := rfl
        rw [hqi]
        clear hnx
        have hq0 : (0 : Int) ≤ (q : Int) := by omega
        have hSt := Lib.hid (fun hc => hst.out.stop hc)
        by_cases hlt : q + 1 < ls.length
        · have hlti : (q : Int) + 1 < (ls.length : Int) := by omega
          obtain ⟨b, o, rfl, hc⟩ := (HV.out.below HB.out).at (show q < ls.length by omega)
          have hbl := block_lt_of_cell hc
          have hgd := getD_at (ls := ls) (p := q) (by omega)
          have hxl : (ls[q]'(by omega)).length ≤ 1000000 := HS.out _ (List.getElem_mem _)
          have hOn := Lib.hid (hst.out.on (by omega))
          obtain ⟨x, hxx⟩ : ∃ x, x = ls[q]'(by omega) := ⟨_, rfl⟩
          rw [← hxx] at hc hgd hxl
          rw [hgd] at hSt
          clear hxx
          by_cases he1 : x = endL
          · subst he1
            have hE := Lib.hid (hSt.out (fun h => h.2.1 rfl))
            have hf : Hid (R.2 = some q) := Lib.hid hE.out.2
            have ha : Hid (acc = R.1) := Lib.hid hE.out.1
            clear hE hSt hOn hst
            go_wp2_with fail
            refine bodyPost_ret (v := .tuple #[.slice A5 acc.len c5, .int .i64 q]) (by simp [results, Tryz.results119, go_sem]) rfl ⟨_, by rw [hf.out]; rfl, by rw [← ha.out]; exact hN.out, HB.out⟩
          have he1b : (x == [101, 110, 100]) = false := by rw [bytes_eq]; simpa using he1
          by_cases he2 : x = elseL
          · subst he2
            have hE := Lib.hid (hSt.out (fun h => h.2.2 rfl))
            have hf : Hid (R.2 = some q) := Lib.hid hE.out.2
            have ha : Hid (acc = R.1) := Lib.hid hE.out.1
            clear hE hSt hOn hst
            go_wp2_with fail
            refine bodyPost_ret (v := .tuple #[.slice A5 acc.len c5, .int .i64 q]) (by simp [results, Tryz.results119, go_sem]) rfl ⟨_, by rw [hf.out]; rfl, by rw [← ha.out]; exact hN.out, HB.out⟩
          have he2b : (x == [101, 108, 115, 101]) = false := by rw [bytes_eq]; simpa using he2
          have hcc := Lib.hid (show q + 1 < ls.length ∧ ls.getD q [] ≠ endL ∧ ls.getD q [] ≠ elseL from ⟨hlt, by rw [hgd]; exact he1, by rw [hgd]; exact he2⟩)
          obtain ⟨m, hm, hF1, hF2⟩ := hOn.out
          replace hF1 := Lib.hid hF1
          replace hF2 := Lib.hid hF2
          clear he1 he2 hOn hst hSt
          go_wp2_with fail
          refine (c_l8Head x _ hxl).mono ?_
          rintro e w1 ⟨fv, av, rfl, of, oa, hB1⟩
          obtain ⟨⟨k, ha, hb, ⟨te, ta, tb⟩, i⟩, hH⟩ : ∃ h, h = headF x := ⟨_, rfl⟩
          rw [← hH] at of oa ⊢
          replace hH := Lib.hid (show headF (ls.getD q []) = ⟨k, ha, hb, ⟨te, ta, tb⟩, i⟩ by rw [hgd]; exact hH.symm)
          unfold headV
          simp only at of oa ⊢
          obtain ⟨AF, cF, rfl, vF⟩ := of.reads
          obtain ⟨AA, cA, rfl, vA⟩ := oa.reads
          have zr := hB1.size
          have HB1 := Lib.hid (bgo HB.out hB1)
          have hcb : w1.heap.size ≠ b := by have h9 : b < wr.heap.size := hbl; omega
          have HX0 := Lib.hid (show ∀ y, wr.heap.size ≤ y → y < w1.heap.size → (w.heap.size ≤ y ∧ (Value.slice A5 acc.len c5).ownBlock ≠ some y ∧ y ≠ w1.heap.size) from fun y h1 h2 => ⟨by omega, fun e => by have := hOL.out y e; omega, by omega⟩)
          have HXN := Lib.hid (show ∀ y, w1.heap.size + 1 ≤ y → (w.heap.size ≤ y ∧ (Value.slice A5 acc.len c5).ownBlock ≠ some y ∧ y ≠ w1.heap.size) from fun y h1 => ⟨by omega, fun e => by have := hOL.out y e; omega, by omega⟩)
          have XF := Lib.hid (Rw.x vF.raw HX0.out)
          have XA := Lib.hid (Rw.x vA.raw HX0.out)
          have HN1 := Lib.hid (hN.out.below hB1)
          have k0 : Blk (w1.alloc (.cells #[.int .i64 k, .int .i64 ha, .int .i64 hb, .bool te, .int .i64 ta, .int .i64 tb, .slice AF i.facts.length cF, .slice AA i.atoms.length cA, .slice none 0 0, .slice none 0 0] tC)) w1.heap.size tC #[.int .i64 k, .int .i64 ha, .int .i64 hb, .bool te, .int .i64 ta, .int .i64 tb, .slice AF i.facts.length cF, .slice AA i.atoms.length cA, .slice none 0 0, .slice none 0 0] := Blk.new _ _ _
          have hBw : Hid (Below w1.heap.size w1 (w1.alloc (.cells #[.int .i64 k, .int .i64 ha, .int .i64 hb, .bool te, .int .i64 ta, .int .i64 tb, .slice AF i.facts.length cF, .slice AA i.atoms.length cA, .slice none 0 0, .slice none 0 0] tC))) := Lib.hid (bbox (Below.refl _ _) _)
          have hq1i := Lib.hid (show (q : Int) + 1 = ((q + 1 : Nat) : Int) by omega)
          clear of oa vF vA hB1 hc hN hbl HB
          have hd1 : ((d + 1 : Nat) : Int) - 1 = (d : Int) := by omega
          have hdn : ¬ (((d + 1 : Nat) : Int) < 1) := by omega
          by_cases hk : k = 6 ∨ k = 7
          · have hk' : (headF (ls.getD q [])).k = 6 ∨ (headF (ls.getD q [])).k = 7 := by rw [hH.out]; exact hk
            have Hno := Lib.hid (fun r h1 h2 => blk_noelse (q := r) (m := m) (d := d + 1) hcc.out hk' (by omega) h1 h2)
            have Hn := Lib.hid (fun h1 => blk_none (m := m) (d := d + 1) hcc.out hk' (by omega) h1)
            have He0 := Lib.hid (fun r h1 h2 h3 => blk_else0 (q := r) (m := m) (d := d + 1) hcc.out hk' (by omega) h1 h2 h3)
            have He := Lib.hid (fun r r' h1 h2 h3 => blk_else (q := r) (r := r') (m := m) (d := d + 1) hcc.out hk' (by omega) h1 h2 h3)
            rw [Nat.add_sub_cancel] at Hno Hn He0 He
            rw [hH.out] at Hno Hn He0 He
            have hle1 := Lib.hid (fun r => blkF_le ls m (q + 1) d (m := r))
            have Ib := Lib.hid (fun W hW => IH.out lo hi (some ⟨b, o, none⟩) c (q + 1) m W hW (by omega) (by omega))
            obtain ⟨⟨body, nb⟩, hB⟩ : ∃ B, B = blkF ls m (q + 1) d := ⟨_, rfl⟩
            rw [← hB] at Hno Hn He0 He hle1 Ib
            simp only at Hno Hn He0 He hle1 Ib
            clear hB hk'
            have HW0 := Lib.hid (hBw.out)
            rcases hk with hk | hk
            · have t6 : (k == 6) = true := by simp [hk]
              clear hk
              (replace qk0 := k0.cell; replace rk0 := k0.frozen; replace lk0 := k0.lt)
              go_upto_if 52 with fail
              go_cut [1] (fun s1 wc => ∃ (body els : Cms) (nx : Option Nat) (AB : Option Addr) (cB : Nat) (AE : Option Addr) (cE : Nat), s1 = .int .i64 (atI nx) ∧ Hid (blkSt ls (d + 1) R (acc.app (.cons k ha hb ⟨te, ta, tb⟩ i body els .nil)) nx) ∧ Hid (∀ r, nx = some r → q + 1 ≤ r ∧ r ≤ ls.length + (d + 1)) ∧
                Blk wc w1.heap.size tC #[.int .i64 k, .int .i64 ha, .int .i64 hb, .bool te, .int .i64 ta, .int .i64 tb, .slice AF i.facts.length cF, .slice AA i.atoms.length cA, .slice AB body.len cB, .slice AE els.len cE] ∧
                Hid (PartX wc (fun y => w.heap.size ≤ y ∧ (Value.slice A5 acc.len c5).ownBlock ≠ some y ∧ y ≠ w1.heap.size) AB body) ∧ Hid (PartX wc (fun y => w.heap.size ≤ y ∧ (Value.slice A5 acc.len c5).ownBlock ≠ some y ∧ y ≠ w1.heap.size) AE els) ∧ Hid (Below w1.heap.size w1 wc))
              case first =>
                go_wp2_with fail
                refine (Ib.out _ ((HV.out.below HB1.out).below hBw.out)).mono ?_
                rintro e w2 ⟨v2, rfl, N2, hB2⟩
                obtain ⟨AB, cB, rfl, -⟩ := N2.reads
                have z2 := hB2.size
                simp only [World.size_alloc] at z2
                have k2 := k0.next hB2
                have HW2 := Lib.hid (bgo hBw.out hB2)
                have P2 := Lib.hid (N2.part.mono (Y := fun y => w.heap.size ≤ y ∧ (Value.slice A5 acc.len c5).ownBlock ≠ some y ∧ y ≠ w1.heap.size) fun y hy _ => HXN.out y (by simpa using hy))
                have k3 := k2.set_ 8 (.slice AB body.len cB)
                simp only [List.setIfInBounds_toArray, List.set_cons_zero, List.set_cons_succ] at k3
                have P3 := Lib.hid (P2.out.keep (w' := w2.setCell ⟨w1.heap.size, 8, none⟩ (.slice AB body.len cB)) fun y hy _ => Below.heap_setCell w2 ⟨w1.heap.size, 8, none⟩ (.slice AB body.len cB) y hy.2.2)
                have HW3 : Hid (Below w1.heap.size w1 (w2.setCell ⟨w1.heap.size, 8, none⟩ (.slice AB body.len cB))) := Lib.hid (HW2.out.setCell (Nat.le_refl _) _)
                replace k3 := Lib.hid k3
                clear N2 hB2 qk0 rk0 lk0 P2
                (replace qk2 := k2.cell; replace rk2 := k2.frozen; replace lk2 := k2.lt)
                cases nb with
                | none =>
                  have hm1 : atI none = -1 := rfl
                  rw [hm1]
                  have hst2 := Lib.hid (blkSt.mk0 (ls := ls) (d := d + 1) hF1.out hF2.out (Hn.out rfl))
                  clear Hno Hn He0 He hF1 hF2 Ib
                  go_wp2_with fail
                  go_meet
                  case rel => exact ⟨body, .nil, none, AB, cB, none, 0, rfl, hst2, Lib.hid (fun r e => by cases e), k3.out, P3.out, Lib.hid (PartX.nil _), HW3.out⟩
                | some r =>
                  have hr := hle1.out r rfl
                  have hri : atI (some r) = (r : Int) := rfl
                  rw [hri]
                  have hr0 : (0 : Int) ≤ (r : Int) := by omega
                  have hr1 := Lib.hid (show (r : Int) + 1 = ((r + 1 : Nat) : Int) by omega)
                  by_cases hrl : r < ls.length
                  · have hrli : (r : Int) < (ls.length : Int) := by omega
                    have hgr := getD_at (ls := ls) (p := r) hrl
                    obtain ⟨b', o', e', hcr⟩ := ((HV.out.below HB1.out).below HW2.out).at hrl
                    injection e' with e'
                    injection e' with e1 e2
                    subst e1 e2
                    obtain ⟨y, hyy⟩ : ∃ y, y = ls[r] := ⟨_, rfl⟩
                    rw [← hyy] at hgr hcr
                    clear hyy
                    by_cases hy : y = elseL
                    · subst hy
                      have Ie := Lib.hid (fun W hW => IH.out lo hi (some ⟨b, o, none⟩) c (r + 1) m W hW (by omega) (by omega))
                      have hle2 := Lib.hid (fun r' => blkF_le ls m (r + 1) d (m := r'))
                      have He0' := Lib.hid (fun h3 => He0.out r rfl ⟨hrl, hgr⟩ h3)
                      have He' := Lib.hid (fun r' h3 => He.out r r' rfl ⟨hrl, hgr⟩ h3)
                      obtain ⟨⟨els, ne⟩, hE⟩ : ∃ B, B = blkF ls m (r + 1) d := ⟨_, rfl⟩
                      rw [← hE] at Ie hle2 He0' He'
                      simp only at Ie hle2 He0' He'
                      clear hE Hno Hn He0 He Ib
                      go_wp2_with fail
                      refine (Ie.out _ ((HV.out.below HB1.out).below HW3.out)).mono ?_
                      rintro e w4 ⟨v4, rfl, N4, hB4⟩
                      obtain ⟨AE, cE, rfl, -⟩ := N4.reads
                      have z4 := hB4.size
                      simp only [World.size_setCell] at z4
                      have k4 := k3.out.next hB4
                      have HW4 := Lib.hid (bgo HW3.out hB4)
                      have P4 := Lib.hid (N4.part.mono (Y := fun y => w.heap.size ≤ y ∧ (Value.slice A5 acc.len c5).ownBlock ≠ some y ∧ y ≠ w1.heap.size) fun y hy _ => HXN.out y (by have h1 := hy; simp only [World.size_setCell] at h1; omega))
                      have Q4 := Lib.hid (P3.out.keep (w' := w4) fun y _ hy => hB4.block y hy)
                      have k5 := k4.set_ 9 (.slice AE els.len cE)
                      simp only [List.setIfInBounds_toArray, List.set_cons_zero, List.set_cons_succ] at k5
                      have P5 := Lib.hid (P4.out.keep (w' := w4.setCell ⟨w1.heap.size, 9, none⟩ (.slice AE els.len cE)) fun y hy _ => Below.heap_setCell w4 ⟨w1.heap.size, 9, none⟩ (.slice AE els.len cE) y hy.2.2)
                      have Q5 := Lib.hid (Q4.out.keep (w' := w4.setCell ⟨w1.heap.size, 9, none⟩ (.slice AE els.len cE)) fun y hy _ => Below.heap_setCell w4 ⟨w1.heap.size, 9, none⟩ (.slice AE els.len cE) y hy.2.2)
                      have HW5 : Hid (Below w1.heap.size w1 (w4.setCell ⟨w1.heap.size, 9, none⟩ (.slice AE els.len cE))) := Lib.hid (HW4.out.setCell (Nat.le_refl _) _)
                      replace k5 := Lib.hid k5
                      clear N4 hB4 qk2 rk2 lk2 P4 Q4 P3 k3 HW3
                      (replace qk4 := k4.cell; replace rk4 := k4.frozen; replace lk4 := k4.lt)
                      cases ne with
                      | none =>
                        have hm1 : atI none = -1 := rfl
                        rw [hm1]
                        have hst2 := Lib.hid (blkSt.mk0 (ls := ls) (d := d + 1) hF1.out hF2.out (He0'.out rfl))
                        clear He0' He' hF1 hF2
                        go_wp2_with fail
                        go_meet
                        case rel => exact ⟨body, els, none, AB, cB, AE, cE, rfl, hst2, Lib.hid (fun r e => by cases e), k5.out, Q5.out, P5.out, HW5.out⟩
                      | some s =>
                        have hs := hle2.out s rfl
                        have hsi : atI (some s) = (s : Int) := rfl
                        rw [hsi]
                        have hs0 : (0 : Int) ≤ (s : Int) := by omega
                        have hs1 := Lib.hid (show (s : Int) + 1 = ((s + 1 : Nat) : Int) by omega)
                        have hst2 := Lib.hid (blkSt.mk (ls := ls) (d := d + 1) (q := s + 1) hm hF1.out hF2.out (by omega) (He'.out s rfl))
                        clear He0' He' hF1 hF2
                        go_wp2_with fail
                        go_meet
                        case rel => exact ⟨body, els, some (s + 1), AB, cB, AE, cE, by rw [hs1.out]; rfl, hst2, Lib.hid (fun r e => by injection e with e; subst e; omega), k5.out, Q5.out, P5.out, HW5.out⟩
                    · have hyb : (y == [101, 108, 115, 101]) = false := by rw [bytes_eq]; simpa using hy
                      have hst2 := Lib.hid (blkSt.mk (ls := ls) (d := d + 1) (q := r + 1) hm hF1.out hF2.out (by omega) (Hno.out r rfl (fun h => hy (by rw [← hgr]; exact h.2))))
                      clear Hno Hn He0 He hF1 hF2 Ib hy
                      go_wp2_with fail
                      go_meet
                      case rel => exact ⟨body, .nil, some (r + 1), AB, cB, none, 0, by rw [hr1.out]; rfl, hst2, Lib.hid (fun r e => by injection e with e; subst e; omega), k3.out, P3.out, Lib.hid (PartX.nil _), HW3.out⟩
                  · have hrli : ¬ (r : Int) < (ls.length : Int) := by omega
                    have hst2 := Lib.hid (blkSt.mk (ls := ls) (d := d + 1) (q := r + 1) hm hF1.out hF2.out (by omega) (Hno.out r rfl (fun h => hrl h.1)))
                    clear Hno Hn He0 He hF1 hF2 Ib
                    go_wp2_with fail
                    go_meet
                    case rel => exact ⟨body, .nil, some (r + 1), AB, cB, none, 0, by rw [hr1.out]; rfl, hst2, Lib.hid (fun r e => by injection e with e; subst e; omega), k3.out, P3.out, Lib.hid (PartX.nil _), HW3.out⟩
              case rest =>
                obtain ⟨body, els, nx, AB, cB, AE, cE, rfl, hstx, hnx, kx, h3, h4, hBx⟩ := hcut
                obtain ⟨wx, rfl⟩ : ∃ z, z = wc := ⟨_, rfl⟩
                clear k0 hBw qk0 rk0 lk0 Hno Hn He0 He Ib hF1 hF2 hle1 HW0
                have hT0 := HN1.out.below hBx.out
                obtain ⟨cs, ho9, hT9, -⟩ := hT0
                replace hT9 := Lib.hid hT9
                replace ho9 := Lib.hid ho9
                have hl9 : w.heap.size ≤ wx.heap.size := by have := hBx.out.size; omega
                have XF9 := Lib.hid (XF.out.keep (w' := wx) fun y _ hy => hBx.out.block y hy)
                have XA9 := Lib.hid (XA.out.keep (w' := wx) fun y _ hy => hBx.out.block y hy)
                clear XF XA HN1
                have hfin : acc.len + 1 ≤ 1049600 ∧ w.heap.size ≤ w1.heap.size := by omega
                have hacc : acc.len + 1 ≤ ls.length + (d + 1) := by omega
                obtain ⟨hfin, hw1⟩ := hfin
                have hq3 := Lib.hid (show 1 ≤ gk ∧ ls.length + 12 ≤ gk + q by omega)
                replace hacc := Lib.hid hacc
                replace hq1 := Lib.hid hq1
                replace hw1 := Lib.hid hw1
                have qkx := kx.cell
                have rkx := kx.frozen
                have lkx := kx.lt
                replace kx := Lib.hid kx
                clear hqi hgd he1b he2b hcc hm hxl hq0 hlti hlt hal hq2 hH hcb hz zr
                go_wp2_with (at_builtin; (refine appCX (base := w.heap.size) (g0 := wx.heap.size) rfl _ _ rfl rfl (own_below ho9.out (bbox (Below.refl _ _) _)) (tenL k ha hb ⟨te, ta, tb⟩ (.slice AF i.facts.length cF) (.slice AA i.atoms.length cA) (.slice AB body.len cB) (.slice AE els.len cE)) rfl (Blk.new _ _ _) rfl rfl (tenOne _ _ _ _ _ _ _ _ _ _ _ _ _ _ _ _) hfin (by simp; omega) ?_); (intro A8 c8 w8 o8 g8 B8 v8; have o8 := Lib.hid o8; have g8 := Lib.hid g8; have v8 := Lib.hid v8; have B8 := Lib.hid B8))
                have kX : ∀ y, y < wx.heap.size → (wx.alloc (.cells (tenL k ha hb ⟨te, ta, tb⟩ (.slice AF i.facts.length cF) (.slice AA i.atoms.length cA) (.slice AB body.len cB) (.slice AE els.len cE)).toArray tC)).heap[y]? = wx.heap[y]? := fun y hy => (bbox (Below.refl _ wx) _).block y hy
                have N8 : CmsN w8 w.heap.size (.slice A8 (acc.len + 1) c8) (acc.app (.cons k ha hb ⟨te, ta, tb⟩ i body els .nil)) := CmsN.grow (hT9.out.keep fun y _ hy => kX y hy) hfin ((XF9.out.mono fun y hy _ => ⟨hy.1, hy.2.1⟩).keep fun y _ hy => kX y hy) ((XA9.out.mono fun y hy _ => ⟨hy.1, hy.2.1⟩).keep fun y _ hy => kX y hy) ((h3.out.mono fun y hy _ => ⟨hy.1, hy.2.1⟩).keep fun y _ hy => kX y hy) ((h4.out.mono fun y hy _ => ⟨hy.1, hy.2.1⟩).keep fun y _ hy => kX y hy) o8.out g8.out v8.out
                have F8 : Below w.heap.size w w8 := ((HB1.out.trans (hBx.out.mono hw1.out)).alloc hl9 _).trans B8.out
                have hLl : (acc.app (.cons k ha hb ⟨te, ta, tb⟩ i body els .nil)).len = acc.len + 1 := by rw [Cms.len_app]; rfl
                go_roundg (gk - 1)
                case rel => exact ⟨acc.app (.cons k ha hb ⟨te, ta, tb⟩ i body els .nil), nx, rfl, Lib.hid N8, hstx, by rw [hLl]; exact hacc.out, Lib.hid (fun r e => by have := hnx.out r e; have := hq1.out; have := hq3.out; rw [hLl]; omega), Lib.hid F8⟩
                case measure => have := hq3.out; omega
            · have t6 : (k == 6) = false := by simp [hk]
              have t7 : (k == 7) = true := by simp [hk]
              clear hk
              (replace qk0 := k0.cell; replace rk0 := k0.frozen; replace lk0 := k0.lt)
              go_upto_if 52 with fail
              go_cut [1] (fun s1 wc => ∃ (body els : Cms) (nx : Option Nat) (AB : Option Addr) (cB : Nat) (AE : Option Addr) (cE : Nat), s1 = .int .i64 (atI nx) ∧ Hid (blkSt ls (d + 1) R (acc.app (.cons k ha hb ⟨te, ta, tb⟩ i body els .nil)) nx) ∧ Hid (∀ r, nx = some r → q + 1 ≤ r ∧ r ≤ ls.length + (d + 1)) ∧
                Blk wc w1.heap.size tC #[.int .i64 k, .int .i64 ha, .int .i64 hb, .bool te, .int .i64 ta, .int .i64 tb, .slice AF i.facts.length cF, .slice AA i.atoms.length cA, .slice AB body.len cB, .slice AE els.len cE] ∧
                Hid (PartX wc (fun y => w.heap.size ≤ y ∧ (Value.slice A5 acc.len c5).ownBlock ≠ some y ∧ y ≠ w1.heap.size) AB body) ∧ Hid (PartX wc (fun y => w.heap.size ≤ y ∧ (Value.slice A5 acc.len c5).ownBlock ≠ some y ∧ y ≠ w1.heap.size) AE els) ∧ Hid (Below w1.heap.size w1 wc))
              case first =>
                go_wp2_with fail
                refine (Ib.out _ ((HV.out.below HB1.out).below hBw.out)).mono ?_
                rintro e w2 ⟨v2, rfl, N2, hB2⟩
                obtain ⟨AB, cB, rfl, -⟩ := N2.reads
                have z2 := hB2.size
                simp only [World.size_alloc] at z2
                have k2 := k0.next hB2
                have HW2 := Lib.hid (bgo hBw.out hB2)
                have P2 := Lib.hid (N2.part.mono (Y := fun y => w.heap.size ≤ y ∧ (Value.slice A5 acc.len c5).ownBlock ≠ some y ∧ y ≠ w1.heap.size) fun y hy _ => HXN.out y (by simpa using hy))
                have k3 := k2.set_ 8 (.slice AB body.len cB)
                simp only [List.setIfInBounds_toArray, List.set_cons_zero, List.set_cons_succ] at k3
                have P3 := Lib.hid (P2.out.keep (w' := w2.setCell ⟨w1.heap.size, 8, none⟩ (.slice AB body.len cB)) fun y hy _ => Below.heap_setCell w2 ⟨w1.heap.size, 8, none⟩ (.slice AB body.len cB) y hy.2.2)
                have HW3 : Hid (Below w1.heap.size w1 (w2.setCell ⟨w1.heap.size, 8, none⟩ (.slice AB body.len cB))) := Lib.hid (HW2.out.setCell (Nat.le_refl _) _)
                replace k3 := Lib.hid k3
                clear N2 hB2 qk0 rk0 lk0 P2
                (replace qk2 := k2.cell; replace rk2 := k2.frozen; replace lk2 := k2.lt)
                cases nb with
                | none =>
                  have hm1 : atI none = -1 := rfl
                  rw [hm1]
                  have hst2 := Lib.hid (blkSt.mk0 (ls := ls) (d := d + 1) hF1.out hF2.out (Hn.out rfl))
                  clear Hno Hn He0 He hF1 hF2 Ib
                  go_wp2_with fail
                  go_meet
                  case rel => exact ⟨body, .nil, none, AB, cB, none, 0, rfl, hst2, Lib.hid (fun r e => by cases e), k3.out, P3.out, Lib.hid (PartX.nil _), HW3.out⟩
                | some r =>
                  have hr := hle1.out r rfl
                  have hri : atI (some r) = (r : Int) := rfl
                  rw [hri]
                  have hr0 : (0 : Int) ≤ (r : Int) := by omega
                  have hr1 := Lib.hid (show (r : Int) + 1 = ((r + 1 : Nat) : Int) by omega)
                  by_cases hrl : r < ls.length
                  · have hrli : (r : Int) < (ls.length : Int) := by omega
                    have hgr := getD_at (ls := ls) (p := r) hrl
                    obtain ⟨b', o', e', hcr⟩ := ((HV.out.below HB1.out).below HW2.out).at hrl
                    injection e' with e'
                    injection e' with e1 e2
                    subst e1 e2
                    obtain ⟨y, hyy⟩ : ∃ y, y = ls[r] := ⟨_, rfl⟩
                    rw [← hyy] at hgr hcr
                    clear hyy
                    by_cases hy : y = elseL
                    · subst hy
                      have Ie := Lib.hid (fun W hW => IH.out lo hi (some ⟨b, o, none⟩) c (r + 1) m W hW (by omega) (by omega))
                      have hle2 := Lib.hid (fun r' => blkF_le ls m (r + 1) d (m := r'))
                      have He0' := Lib.hid (fun h3 => He0.out r rfl ⟨hrl, hgr⟩ h3)
                      have He' := Lib.hid (fun r' h3 => He.out r r' rfl ⟨hrl, hgr⟩ h3)
                      obtain ⟨⟨els, ne⟩, hE⟩ : ∃ B, B = blkF ls m (r + 1) d := ⟨_, rfl⟩
                      rw [← hE] at Ie hle2 He0' He'
                      simp only at Ie hle2 He0' He'
                      clear hE Hno Hn He0 He Ib
                      go_wp2_with fail
                      refine (Ie.out _ ((HV.out.below HB1.out).below HW3.out)).mono ?_
                      rintro e w4 ⟨v4, rfl, N4, hB4⟩
                      obtain ⟨AE, cE, rfl, -⟩ := N4.reads
                      have z4 := hB4.size
                      simp only [World.size_setCell] at z4
                      have k4 := k3.out.next hB4
                      have HW4 := Lib.hid (bgo HW3.out hB4)
                      have P4 := Lib.hid (N4.part.mono (Y := fun y => w.heap.size ≤ y ∧ (Value.slice A5 acc.len c5).ownBlock ≠ some y ∧ y ≠ w1.heap.size) fun y hy _ => HXN.out y (by have h1 := hy; simp only [World.size_setCell] at h1; omega))
                      have Q4 := Lib.hid (P3.out.keep (w' := w4) fun y _ hy => hB4.block y hy)
                      have k5 := k4.set_ 9 (.slice AE els.len cE)
                      simp only [List.setIfInBounds_toArray, List.set_cons_zero, List.set_cons_succ] at k5
                      have P5 := Lib.hid (P4.out.keep (w' := w4.setCell ⟨w1.heap.size, 9, none⟩ (.slice AE els.len cE)) fun y hy _ => Below.heap_setCell w4 ⟨w1.heap.size, 9, none⟩ (.slice AE els.len cE) y hy.2.2)
                      have Q5 := Lib.hid (Q4.out.keep (w' := w4.setCell ⟨w1.heap.size, 9, none⟩ (.slice AE els.len cE)) fun y hy _ => Below.heap_setCell w4 ⟨w1.heap.size, 9, none⟩ (.slice AE els.len cE) y hy.2.2)
                      have HW5 : Hid (Below w1.heap.size w1 (w4.setCell ⟨w1.heap.size, 9, none⟩ (.slice AE els.len cE))) := Lib.hid (HW4.out.setCell (Nat.le_refl _) _)
                      replace k5 := Lib.hid k5
                      clear N4 hB4 qk2 rk2 lk2 P4 Q4 P3 k3 HW3
                      (replace qk4 := k4.cell; replace rk4 := k4.frozen; replace lk4 := k4.lt)
                      cases ne with
                      | none =>
                        have hm1 : atI none = -1 := rfl
                        rw [hm1]
                        have hst2 := Lib.hid (blkSt.mk0 (ls := ls) (d := d + 1) hF1.out hF2.out (He0'.out rfl))
                        clear He0' He' hF1 hF2
                        go_wp2_with fail
                        go_meet
                        case rel => exact ⟨body, els, none, AB, cB, AE, cE, rfl, hst2, Lib.hid (fun r e => by cases e), k5.out, Q5.out, P5.out, HW5.out⟩
                      | some s =>
                        have hs := hle2.out s rfl
                        have hsi : atI (some s) = (s : Int) := rfl
                        rw [hsi]
                        have hs0 : (0 : Int) ≤ (s : Int) := by omega
                        have hs1 := Lib.hid (show (s : Int) + 1 = ((s + 1 : Nat) : Int) by omega)
                        have hst2 := Lib.hid (blkSt.mk (ls := ls) (d := d + 1) (q := s + 1) hm hF1.out hF2.out (by omega) (He'.out s rfl))
                        clear He0' He' hF1 hF2
                        go_wp2_with fail
                        go_meet
                        case rel => exact ⟨body, els, some (s + 1), AB, cB, AE, cE, by rw [hs1.out]; rfl, hst2, Lib.hid (fun r e => by injection e with e; subst e; omega), k5.out, Q5.out, P5.out, HW5.out⟩
                    · have hyb : (y == [101, 108, 115, 101]) = false := by rw [bytes_eq]; simpa using hy
                      have hst2 := Lib.hid (blkSt.mk (ls := ls) (d := d + 1) (q := r + 1) hm hF1.out hF2.out (by omega) (Hno.out r rfl (fun h => hy (by rw [← hgr]; exact h.2))))
                      clear Hno Hn He0 He hF1 hF2 Ib hy
                      go_wp2_with fail
                      go_meet
                      case rel => exact ⟨body, .nil, some (r + 1), AB, cB, none, 0, by rw [hr1.out]; rfl, hst2, Lib.hid (fun r e => by injection e with e; subst e; omega), k3.out, P3.out, Lib.hid (PartX.nil _), HW3.out⟩
                  · have hrli : ¬ (r : Int) < (ls.length : Int) := by omega
                    have hst2 := Lib.hid (blkSt.mk (ls := ls) (d := d + 1) (q := r + 1) hm hF1.out hF2.out (by omega) (Hno.out r rfl (fun h => hrl h.1)))
                    clear Hno Hn He0 He hF1 hF2 Ib
                    go_wp2_with fail
                    go_meet
                    case rel => exact ⟨body, .nil, some (r + 1), AB, cB, none, 0, by rw [hr1.out]; rfl, hst2, Lib.hid (fun r e => by injection e with e; subst e; omega), k3.out, P3.out, Lib.hid (PartX.nil _), HW3.out⟩
              case rest =>
                obtain ⟨body, els, nx, AB, cB, AE, cE, rfl, hstx, hnx, kx, h3, h4, hBx⟩ := hcut
                obtain ⟨wx, rfl⟩ : ∃ z, z = wc := ⟨_, rfl⟩
                clear k0 hBw qk0 rk0 lk0 Hno Hn He0 He Ib hF1 hF2 hle1 HW0
                have hT0 := HN1.out.below hBx.out
                obtain ⟨cs, ho9, hT9, -⟩ := hT0
                replace hT9 := Lib.hid hT9
                replace ho9 := Lib.hid ho9
                have hl9 : w.heap.size ≤ wx.heap.size := by have := hBx.out.size; omega
                have XF9 := Lib.hid (XF.out.keep (w' := wx) fun y _ hy => hBx.out.block y hy)
                have XA9 := Lib.hid (XA.out.keep (w' := wx) fun y _ hy => hBx.out.block y hy)
                clear XF XA HN1
                have hfin : acc.len + 1 ≤ 1049600 ∧ w.heap.size ≤ w1.heap.size := by omega
                have hacc : acc.len + 1 ≤ ls.length + (d + 1) := by omega
                obtain ⟨hfin, hw1⟩ := hfin
                have hq3 := Lib.hid (show 1 ≤ gk ∧ ls.length + 12 ≤ gk + q by omega)
                replace hacc := Lib.hid hacc
                replace hq1 := Lib.hid hq1
                replace hw1 := Lib.hid hw1
                have qkx := kx.cell
                have rkx := kx.frozen
                have lkx := kx.lt
                replace kx := Lib.hid kx
                clear hqi hgd he1b he2b hcc hm hxl hq0 hlti hlt hal hq2 hH hcb hz zr
                go_wp2_with (at_builtin; (refine appCX (base := w.heap.size) (g0 := wx.heap.size) rfl _ _ rfl rfl (own_below ho9.out (bbox (Below.refl _ _) _)) (tenL k ha hb ⟨te, ta, tb⟩ (.slice AF i.facts.length cF) (.slice AA i.atoms.length cA) (.slice AB body.len cB) (.slice AE els.len cE)) rfl (Blk.new _ _ _) rfl rfl (tenOne _ _ _ _ _ _ _ _ _ _ _ _ _ _ _ _) hfin (by simp; omega) ?_); (intro A8 c8 w8 o8 g8 B8 v8; have o8 := Lib.hid o8; have g8 := Lib.hid g8; have v8 := Lib.hid v8; have B8 := Lib.hid B8))
                have kX : ∀ y, y < wx.heap.size → (wx.alloc (.cells (tenL k ha hb ⟨te, ta, tb⟩ (.slice AF i.facts.length cF) (.slice AA i.atoms.length cA) (.slice AB body.len cB) (.slice AE els.len cE)).toArray tC)).heap[y]? = wx.heap[y]? := fun y hy => (bbox (Below.refl _ wx) _).block y hy
                have N8 : CmsN w8 w.heap.size (.slice A8 (acc.len + 1) c8) (acc.app (.cons k ha hb ⟨te, ta, tb⟩ i body els .nil)) := CmsN.grow (hT9.out.keep fun y _ hy => kX y hy) hfin ((XF9.out.mono fun y hy _ => ⟨hy.1, hy.2.1⟩).keep fun y _ hy => kX y hy) ((XA9.out.mono fun y hy _ => ⟨hy.1, hy.2.1⟩).keep fun y _ hy => kX y hy) ((h3.out.mono fun y hy _ => ⟨hy.1, hy.2.1⟩).keep fun y _ hy => kX y hy) ((h4.out.mono fun y hy _ => ⟨hy.1, hy.2.1⟩).keep fun y _ hy => kX y hy) o8.out g8.out v8.out
                have F8 : Below w.heap.size w w8 := ((HB1.out.trans (hBx.out.mono hw1.out)).alloc hl9 _).trans B8.out
                have hLl : (acc.app (.cons k ha hb ⟨te, ta, tb⟩ i body els .nil)).len = acc.len + 1 := by rw [Cms.len_app]; rfl
                go_roundg (gk - 1)
                case rel => exact ⟨acc.app (.cons k ha hb ⟨te, ta, tb⟩ i body els .nil), nx, rfl, Lib.hid N8, hstx, by rw [hLl]; exact hacc.out, Lib.hid (fun r e => by have := hnx.out r e; have := hq1.out; have := hq3.out; rw [hLl]; omega), Lib.hid F8⟩
                case measure => have := hq3.out; omega
          · have hk6 : (k == 6) = false := by simp; omega
            have hk7 : (k == 7) = false := by simp; omega
            have hzb := Lib.hid (blk_basic (m := m) (d := d + 1) hcc.out (by rw [hH.out]; exact hk))
            have hstx : Hid (blkSt ls (d + 1) R (acc.app (.cons k ha hb ⟨te, ta, tb⟩ i .nil .nil .nil)) (some (q + 1))) := Lib.hid (blkSt.mk (H := ⟨k, ha, hb, ⟨te, ta, tb⟩, i⟩) hm hF1.out hF2.out (Nat.le_refl _) (by rw [hzb.out, hH.out]))
            clear hzb hF1 hF2 hk
            (replace qk0 := k0.cell; replace rk0 := k0.frozen; replace lk0 := k0.lt)
            go_upto_region 17 with fail
            clear qk0 rk0 lk0
            rw [hq1i.out]
            generalize w1.alloc (.cells #[.int .i64 k, .int .i64 ha, .int .i64 hb, .bool te, .int .i64 ta, .int .i64 tb, .slice AF i.facts.length cF, .slice AA i.atoms.length cA, .slice none 0 0, .slice none 0 0] tC) = wx at *
            have hBx := hBw
            have kx := k0
            obtain ⟨nx, hnxe⟩ : ∃ nx, nx = some (q + 1) := ⟨_, rfl⟩
            have hati : ((q + 1 : Nat) : Int) = atI nx := by rw [hnxe]; rfl
            rw [hati]
            rw [← hnxe] at hstx
            have hnx : Hid (∀ r, nx = some r → q + 1 ≤ r ∧ r ≤ ls.length + (d + 1)) := Lib.hid (fun r e => by rw [hnxe] at e; injection e with e; subst e; omega)
            obtain ⟨AB, cB, AE, cE, hAB⟩ : ∃ (AB : Option Addr) (cB : Nat) (AE : Option Addr) (cE : Nat), AB = none ∧ cB = 0 ∧ AE = none ∧ cE = 0 := ⟨_, _, _, _, rfl, rfl, rfl, rfl⟩
            obtain ⟨body, hbody⟩ : ∃ body, body = Cms.nil := ⟨_, rfl⟩
            obtain ⟨els, hels⟩ : ∃ body, body = Cms.nil := ⟨_, rfl⟩
            have h3 : Hid (PartX wx (fun y => w.heap.size ≤ y ∧ (Value.slice A5 acc.len c5).ownBlock ≠ some y ∧ y ≠ w1.heap.size) AB body) := Lib.hid (by rw [hbody]; exact PartX.nil _)
            have h4 : Hid (PartX wx (fun y => w.heap.size ≤ y ∧ (Value.slice A5 acc.len c5).ownBlock ≠ some y ∧ y ≠ w1.heap.size) AE els) := Lib.hid (by rw [hels]; exact PartX.nil _)
            have hkx : Blk wx w1.heap.size tC #[.int .i64 k, .int .i64 ha, .int .i64 hb, .bool te, .int .i64 ta, .int .i64 tb, .slice AF i.facts.length cF, .slice AA i.atoms.length cA, .slice AB body.len cB, .slice AE els.len cE] := by rw [hAB.1, hAB.2.1, hAB.2.2.1, hAB.2.2.2, hbody, hels]; exact kx
            replace kx := hkx
            replace hstx : Hid (blkSt ls (d + 1) R (acc.app (.cons k ha hb ⟨te, ta, tb⟩ i body els .nil)) nx) := Lib.hid (by rw [hbody, hels]; exact hstx.out)
            clear hAB hbody hels hkx hnxe hati k0 hBw hk6 hk7
            have hT0 := HN1.out.below hBx.out
            obtain ⟨cs, ho9, hT9, -⟩ := hT0
            replace hT9 := Lib.hid hT9
            replace ho9 := Lib.hid ho9
            have hl9 : w.heap.size ≤ wx.heap.size := by have := hBx.out.size; omega
            have XF9 := Lib.hid (XF.out.keep (w' := wx) fun y _ hy => hBx.out.block y hy)
            have XA9 := Lib.hid (XA.out.keep (w' := wx) fun y _ hy => hBx.out.block y hy)
            clear XF XA HN1
            have hfin : acc.len + 1 ≤ 1049600 ∧ w.heap.size ≤ w1.heap.size := by omega
            have hacc : acc.len + 1 ≤ ls.length + (d + 1) := by omega
            obtain ⟨hfin, hw1⟩ := hfin
            have hq3 := Lib.hid (show 1 ≤ gk ∧ ls.length + 12 ≤ gk + q by omega)
            replace hacc := Lib.hid hacc
            replace hq1 := Lib.hid hq1
            replace hw1 := Lib.hid hw1
            have qkx := kx.cell
            have rkx := kx.frozen
            have lkx := kx.lt
            replace kx := Lib.hid kx
            clear hqi hgd he1b he2b hcc hm hxl hq0 hlti hlt hal hq2 hH hcb hz zr
            go_wp2_with (at_builtin; (refine appCX (base := w.heap.size) (g0 := wx.heap.size) rfl _ _ rfl rfl (own_below ho9.out (bbox (Below.refl _ _) _)) (tenL k ha hb ⟨te, ta, tb⟩ (.slice AF i.facts.length cF) (.slice AA i.atoms.length cA) (.slice AB body.len cB) (.slice AE els.len cE)) rfl (Blk.new _ _ _) rfl rfl (tenOne _ _ _ _ _ _ _ _ _ _ _ _ _ _ _ _) hfin (by simp; omega) ?_); (intro A8 c8 w8 o8 g8 B8 v8; have o8 := Lib.hid o8; have g8 := Lib.hid g8; have v8 := Lib.hid v8; have B8 := Lib.hid B8))
            have kX : ∀ y, y < wx.heap.size → (wx.alloc (.cells (tenL k ha hb ⟨te, ta, tb⟩ (.slice AF i.facts.length cF) (.slice AA i.atoms.length cA) (.slice AB body.len cB) (.slice AE els.len cE)).toArray tC)).heap[y]? = wx.heap[y]? := fun y hy => (bbox (Below.refl _ wx) _).block y hy
            have N8 : CmsN w8 w.heap.size (.slice A8 (acc.len + 1) c8) (acc.app (.cons k ha hb ⟨te, ta, tb⟩ i body els .nil)) := CmsN.grow (hT9.out.keep fun y _ hy => kX y hy) hfin ((XF9.out.mono fun y hy _ => ⟨hy.1, hy.2.1⟩).keep fun y _ hy => kX y hy) ((XA9.out.mono fun y hy _ => ⟨hy.1, hy.2.1⟩).keep fun y _ hy => kX y hy) ((h3.out.mono fun y hy _ => ⟨hy.1, hy.2.1⟩).keep fun y _ hy => kX y hy) ((h4.out.mono fun y hy _ => ⟨hy.1, hy.2.1⟩).keep fun y _ hy => kX y hy) o8.out g8.out v8.out
            have F8 : Below w.heap.size w w8 := ((HB1.out.trans (hBx.out.mono hw1.out)).alloc hl9 _).trans B8.out
            have hLl : (acc.app (.cons k ha hb ⟨te, ta, tb⟩ i body els .nil)).len = acc.len + 1 := by rw [Cms.len_app]; rfl
            go_roundg (gk - 1)
            case rel => exact ⟨acc.app (.cons k ha hb ⟨te, ta, tb⟩ i body els .nil), nx, rfl, Lib.hid N8, hstx, by rw [hLl]; exact hacc.out, Lib.hid (fun r e => by have := hnx.out r e; have := hq1.out; have := hq3.out; rw [hLl]; omega), Lib.hid F8⟩
            case measure => have := hq3.out; omega
        · have hlti : ¬ (q : Int) + 1 < (ls.length : Int) := by omega
          have hE := Lib.hid (hSt.out (fun h => hlt h.1))
          have hf : Hid (R.2 = some q) := Lib.hid hE.out.2
          have ha : Hid (acc = R.1) := Lib.hid hE.out.1
          clear hE hSt hst
          go_wp2_with fail
          refine bodyPost_ret (v := .tuple #[.slice A5 acc.len c5, .int .i64 q]) (by simp [results, Tryz.results119, go_sem]) rfl ⟨_, by rw [hf.out]; rfl, by rw [← ha.out]; exact hN.out, HB.out⟩
theorem c_l8Block : ∀ (d : Nat), d ≤ 10 → BlkOk d
  | 0, _ => l8Block_zero
  | d + 1, h => l8Block_succ d (by omega) (c_l8Block d (by omega))
--@
end Go.Proofs.YteogcababfenfaaGreat
