/- Contracts: commands from lines (spec.l8Block). -/
import Derived.Test.YteogcababfenfaaGreatMPrgI
import Derived.Deep.DeepCutAuto
set_option linter.unusedSimpArgs false
set_option linter.unusedVariables false
namespace Go.Proofs.YteogcababfenfaaGreat
open Go Go.RowKit Go.Proofs
--@ spec.l8Block
/-- where it ends -/
def atI : Option Nat → Int
  | some m => (m : Int)
  | none => -1
theorem app_assoc : ∀ (A B C : Cms), (A.app B).app C = A.app (B.app C)
  | .nil, B, C => rfl
  | .cons k a b t i body els r, B, C => by simp only [Cms.app, app_assoc r B C]
theorem app_nil : ∀ (A : Cms), A.app .nil = A
  | .nil => rfl
  | .cons k a b t i body els r => by simp only [Cms.app, app_nil r]
/-- what is read so far, and the place to go on from -/
def blkSt (ls : List Bs) (d : Nat) (R : Cms × Option Nat) (acc : Cms) : Option Nat → Prop
  | some p => ∃ n, ls.length ≤ n + p ∧ acc.app (blkF ls n p d).1 = R.1 ∧ (blkF ls n p d).2 = R.2
  | none => acc = R.1 ∧ R.2 = none
section
variable {ls : List Bs} {d p m : Nat} {R : Cms × Option Nat} {acc body els : Cms}
theorem blkSt.start (n : Nat) (h : ls.length ≤ n + p) : blkSt ls d (blkF ls n p d) .nil (some p) := ⟨n, h, rfl, rfl⟩
theorem blkSt.stop (h : blkSt ls d R acc (some p)) (hc : ¬ (p + 1 < ls.length ∧ ls.getD p [] ≠ endL ∧ ls.getD p [] ≠ elseL)) : acc = R.1 ∧ R.2 = some p := by
  obtain ⟨n, h1, h2, h3⟩ := h
  cases n with
  | zero => exact ⟨by rw [← h2]; exact (app_nil acc).symm, h3.symm⟩
  | succ n =>
    unfold blkF at h2 h3
    rw [if_neg hc] at h2 h3
    exact ⟨by rw [← h2]; exact (app_nil acc).symm, h3.symm⟩
theorem blkSt.on (h : blkSt ls d R acc (some p)) (hp : p < ls.length) : ∃ m, ls.length ≤ m + (p + 1) ∧ acc.app (blkF ls (m + 1) p d).1 = R.1 ∧ (blkF ls (m + 1) p d).2 = R.2 := by
  obtain ⟨n, h1, h2, h3⟩ := h
  cases n with
  | zero => omega
  | succ n => exact ⟨n, by omega, h2, h3⟩
theorem blkSt.mk (hm : ls.length ≤ m + (p + 1)) {F : Cms × Option Nat} (h2 : acc.app F.1 = R.1) (h3 : F.2 = R.2) {H : Hd} {q : Nat} (hq : p + 1 ≤ q) (e : F = (.one1 H body els (blkF ls m q d).1, (blkF ls m q d).2)) : blkSt ls d R (acc.app (.one1 H body els .nil)) (some q) := by
  subst e
  exact ⟨m, by omega, by rw [app_assoc]; exact h2, h3⟩
theorem blkSt.mk0 {F : Cms × Option Nat} (h2 : acc.app F.1 = R.1) (h3 : F.2 = R.2) {H : Hd} (e : F = (.one1 H body els .nil, none)) : blkSt ls d R (acc.app (.one1 H body els .nil)) none := by
  subst e
  exact ⟨h2, h3.symm⟩
theorem blk_basic (hc : p + 1 < ls.length ∧ ls.getD p [] ≠ endL ∧ ls.getD p [] ≠ elseL) (h : ¬ ((headF (ls.getD p [])).k = 6 ∨ (headF (ls.getD p [])).k = 7)) :
    blkF ls (m + 1) p d = (.one1 (headF (ls.getD p [])) .nil .nil (blkF ls m (p + 1) d).1, (blkF ls m (p + 1) d).2) := by
  rw [blkF, if_pos hc, if_neg h]
theorem blk_zero (hc : p + 1 < ls.length ∧ ls.getD p [] ≠ endL ∧ ls.getD p [] ≠ elseL) (h : (headF (ls.getD p [])).k = 6 ∨ (headF (ls.getD p [])).k = 7) (hd : d < 1) : blkF ls (m + 1) p d = (.nil, none) := by
  rw [blkF, if_pos hc, if_pos h, if_pos hd]
theorem blk_none (hc : p + 1 < ls.length ∧ ls.getD p [] ≠ endL ∧ ls.getD p [] ≠ elseL) (h : (headF (ls.getD p [])).k = 6 ∨ (headF (ls.getD p [])).k = 7) (hd : ¬ d < 1) (hb : (blkF ls m (p + 1) (d - 1)).2 = none) :
    blkF ls (m + 1) p d = (.one1 (headF (ls.getD p [])) (blkF ls m (p + 1) (d - 1)).1 .nil .nil, none) := by
  rw [blkF, if_pos hc, if_pos h, if_neg hd]
  split
  · rename_i b e; rw [e]
  · rename_i b q e; rw [e] at hb; cases hb
theorem blk_noelse {q : Nat} (hc : p + 1 < ls.length ∧ ls.getD p [] ≠ endL ∧ ls.getD p [] ≠ elseL) (h : (headF (ls.getD p [])).k = 6 ∨ (headF (ls.getD p [])).k = 7) (hd : ¬ d < 1) (hb : (blkF ls m (p + 1) (d - 1)).2 = some q)
    (hq : ¬ (q < ls.length ∧ ls.getD q [] = elseL)) : blkF ls (m + 1) p d = (.one1 (headF (ls.getD p [])) (blkF ls m (p + 1) (d - 1)).1 .nil (blkF ls m (q + 1) d).1, (blkF ls m (q + 1) d).2) := by
  rw [blkF, if_pos hc, if_pos h, if_neg hd]
  split
  · rename_i b e; rw [e] at hb; cases hb
  · rename_i b q' e
    rw [e] at hb
    injection hb with hb
    subst hb
    rw [if_neg hq, e]
theorem blk_else0 {q : Nat} (hc : p + 1 < ls.length ∧ ls.getD p [] ≠ endL ∧ ls.getD p [] ≠ elseL) (h : (headF (ls.getD p [])).k = 6 ∨ (headF (ls.getD p [])).k = 7) (hd : ¬ d < 1) (hb : (blkF ls m (p + 1) (d - 1)).2 = some q)
    (hq : q < ls.length ∧ ls.getD q [] = elseL) (he : (blkF ls m (q + 1) (d - 1)).2 = none) : blkF ls (m + 1) p d = (.one1 (headF (ls.getD p [])) (blkF ls m (p + 1) (d - 1)).1 (blkF ls m (q + 1) (d - 1)).1 .nil, none) := by
  rw [blkF, if_pos hc, if_pos h, if_neg hd]
  split
  · rename_i b e; rw [e] at hb; cases hb
  · rename_i b q' e
    rw [e] at hb
    injection hb with hb
    subst hb
    rw [if_pos hq, e]
    split
    · rename_i b' e'; rw [e']
    · rename_i b' r e'; rw [e'] at he; cases he
theorem blk_else {q r : Nat} (hc : p + 1 < ls.length ∧ ls.getD p [] ≠ endL ∧ ls.getD p [] ≠ elseL) (h : (headF (ls.getD p [])).k = 6 ∨ (headF (ls.getD p [])).k = 7) (hd : ¬ d < 1) (hb : (blkF ls m (p + 1) (d - 1)).2 = some q)
    (hq : q < ls.length ∧ ls.getD q [] = elseL) (he : (blkF ls m (q + 1) (d - 1)).2 = some r) : blkF ls (m + 1) p d = (.one1 (headF (ls.getD p [])) (blkF ls m (p + 1) (d - 1)).1 (blkF ls m (q + 1) (d - 1)).1 (blkF ls m (r + 1) d).1, (blkF ls m (r + 1) d).2) := by
  rw [blkF, if_pos hc, if_pos h, if_neg hd]
  split
  · rename_i b e; rw [e] at hb; cases hb
  · rename_i b q' e
    rw [e] at hb
    injection hb with hb
    subst hb
    rw [if_pos hq, e]
    split
    · rename_i b' e'; rw [e'] at he; cases he
    · rename_i b' r' e'
      rw [e'] at he
      injection he with he
      subst he
      rw [e']
end
--@
end Go.Proofs.YteogcababfenfaaGreat

/- Contracts: commands from lines (spec.l8Block), the walk. -/
namespace Go.Proofs.YteogcababfenfaaGreat
open Go Go.RowKit Go.Proofs
--@ spec.l8Block
theorem getD_at {ls : List Bs} {p : Nat} (h : p < ls.length) : ls.getD p [] = ls[p] := by simp [List.getD, List.getElem?_eq_getElem h]
def BlkOk (d : Nat) : Prop := ∀ (lo hi : Nat) (A : Option Addr) (c : Nat) (ls : List Bs) (p n : Nat) (w : World), StrsV w lo hi A ls → (∀ x ∈ ls, x.length ≤ 1000000) → ls.length ≤ 1049000 → p ≤ ls.length → ls.length ≤ n + p →
    Calls Tryz.prog 119 #[.slice A ls.length c, .int .i64 p, .int .i64 d] w fun e w' => ∃ v, e = .returned (.tuple #[v, .int .i64 (atI (blkF ls n p d).2)]) ∧ CmsN w' w.heap.size v (blkF ls n p d).1 ∧ Below w.heap.size w w' 
set_option maxRecDepth 100000 in
set_option maxHeartbeats 12800000 in
theorem l8Block_zero : BlkOk 0 := by
    intro lo hi A c ls p n w hV hS hL hp hn
    have HV := Lib.hid hV
    have HS := Lib.hid hS
    obtain ⟨R, hR⟩ : ∃ R, R = blkF ls n p (0) := ⟨_, rfl⟩
    have hst : Hid (blkSt ls (0) R .nil (some p)) := Lib.hid (by rw [hR]; exact blkSt.start n hn)
    rw [← hR]
    clear hV hS hn hR
    go_enter Tryz.func119, Tryz.ntmps119
    have hN0 := CmsN.empty w (Nat.le_refl _)
    go_wp2_with fail
    go_loopg [1, 8] (ls.length + 12) (fun gh s1 s8 wr => ∃ (acc : Cms) (nx : Option Nat), s1 = .int .i64 (atI nx) ∧ Hid (CmsN wr w.heap.size s8 acc) ∧ Hid (blkSt ls (0) R acc nx) ∧ acc.len ≤ ls.length + 0 ∧ Hid (∀ q, nx = some q → acc.len ≤ q ∧ q ≤ ls.length + 0 ∧ ls.length + 12 ≤ gh + q) ∧ Hid (Below w.heap.size w wr))
    case atStart => exact ⟨.nil, some p, rfl, Lib.hid hN0, hst, by simp [Cms.len], Lib.hid (fun q e => by injection e with e; subst e; simp [Cms.len]; omega), Lib.hid (bbox (Below.refl _ _) _)⟩
    case round =>
      clear hN0 hst
      obtain ⟨acc, nx, rfl, hN, hst, hal, hnx, HB⟩ := hrel
      have hz := HB.out.size
      obtain ⟨A5, c5, rfl, -⟩ := hN.out.reads
      have hOL := Lib.hid hN.out.own_lt
      cases nx with
      | none =>
        have hE := Lib.hid hst.out
        have hf : Hid (R.2 = none) := Lib.hid hE.out.2
        have ha : Hid (acc = R.1) := Lib.hid hE.out.1
        have hm1 : atI none = -1 := rfl
        rw [hm1]
        clear hE hst hnx
        go_wp2_with fail
        refine bodyPost_ret (v := .tuple #[.slice A5 acc.len c5, .int .i64 (-1)]) (by simp [results, Tryz.results119, go_sem]) rfl ⟨_, by rw [hf.out]; rfl, by rw [← ha.out]; exact hN.out, HB.out⟩
      | some q =>
        obtain ⟨hq1, hq2, hq3⟩ := hnx.out q rfl
        have hqi : atI (some q) = (q : Int) := rfl
        rw [hqi]
        clear hnx
        have hq0 : (0 : Int) ≤ (q : Int) := by omega
        have hSt := Lib.hid (fun hc => hst.out.stop hc)
        by_cases hlt : q + 1 < ls.length
        · have hlti : (q : Int) + 1 < (ls.length : Int) := by omega
          obtain ⟨b, o, rfl, hc⟩ := (HV.out.below HB.out).at (show q < ls.length by omega)
          have hbl := block_lt_of_cell hc
          have hgd := getD_at (ls := ls) (p := q) (by omega)
          have hxl : (ls[q]'(by omega)).length ≤ 1000000 := HS.out _ (List.getElem_mem _)
          have hOn := Lib.hid (hst.out.on (by omega))
          obtain ⟨x, hxx⟩ : ∃ x, x = ls[q]'(by omega) := ⟨_, rfl⟩
          rw [← hxx] at hc hgd hxl
          rw [hgd] at hSt
          clear hxx
          by_cases he1 : x = endL
          · subst he1
            have hE := Lib.hid (hSt.out (fun h => h.2.1 rfl))
            have hf : Hid (R.2 = some q) := Lib.hid hE.out.2
            have ha : Hid (acc = R.1) := Lib.hid hE.out.1
            clear hE hSt hOn hst
            go_wp2_with fail
            refine bodyPost_ret (v := .tuple #[.slice A5 acc.len c5, .int .i64 q]) (by simp [results, Tryz.results119, go_sem]) rfl ⟨_, by rw [hf.out]; rfl, by rw [← ha.out]; exact hN.out, HB.out⟩
          have he1b : (x == [101, 110, 100]) = false := by rw [bytes_eq]; simpa using he1
          by_cases he2 : x = elseL
          · subst he2
            have hE := Lib.hid (hSt.out (fun h => h.2.2 rfl))
            have hf : Hid (R.2 = some q) := Lib.hid hE.out.2
            have ha : Hid (acc = R.1) := Lib.hid hE.out.1
            clear hE hSt hOn hst
            go_wp2_with fail
            refine bodyPost_ret (v := .tuple #[.slice A5 acc.len c5, .int .i64 q]) (by simp [results, Tryz.results119, go_sem]) rfl ⟨_, by rw [hf.out]; rfl, by rw [← ha.out]; exact hN.out, HB.out⟩
          have he2b : (x == [101, 108, 115, 101]) = false := by rw [bytes_eq]; simpa using he2
          have hcc := Lib.hid (show q + 1 < ls.length ∧ ls.getD q [] ≠ endL ∧ ls.getD q [] ≠ elseL from ⟨hlt, by rw [hgd]; exact he1, by rw [hgd]; exact he2⟩)
          obtain ⟨m, hm, hF1, hF2⟩ := hOn.out
          replace hF1 := Lib.hid hF1
          replace hF2 := Lib.hid hF2
          clear he1 he2 hOn hst hSt
          go_wp2_with fail
          refine (c_l8Head x _ hxl).mono ?_
          rintro e w1 ⟨fv, av, rfl, of, oa, hB1⟩
          obtain ⟨⟨k, ha, hb, ⟨te, ta, tb⟩, i⟩, hH⟩ : ∃ h, h = headF x := ⟨_, rfl⟩
          rw [← hH] at of oa ⊢
          replace hH := Lib.hid (show headF (ls.getD q []) = ⟨k, ha, hb, ⟨te, ta, tb⟩, i⟩ by rw [hgd]; exact hH.symm)
          unfold headV
          simp only at of oa ⊢
          obtain ⟨AF, cF, rfl, vF⟩ := of.reads
          obtain ⟨AA, cA, rfl, vA⟩ := oa.reads
          have zr := hB1.size
          have HB1 := Lib.hid (bgo HB.out hB1)
          have hcb : w1.heap.size ≠ b := by have h9 : b < wr.heap.size := hbl; omega
          have HX0 := Lib.hid (show ∀ y, wr.heap.size ≤ y → y < w1.heap.size → (w.heap.size ≤ y ∧ (Value.slice A5 acc.len c5).ownBlock ≠ some y ∧ y ≠ w1.heap.size) from fun y h1 h2 => ⟨by omega, fun e => by have := hOL.out y e; omega, by omega⟩)
          have HXN := Lib.hid (show ∀ y, w1.heap.size + 1 ≤ y → (w.heap.size ≤ y ∧ (Value.slice A5 acc.len c5).ownBlock ≠ some y ∧ y ≠ w1.heap.size) from fun y h1 => ⟨by omega, fun e => by have := hOL.out y e; omega, by omega⟩)
          have XF := Lib.hid (Rw.x vF.raw HX0.out)
          have XA := Lib.hid (Rw.x vA.raw HX0.out)
          have HN1 := Lib.hid (hN.out.below hB1)
          have k0 : Blk (w1.alloc (.cells #[.int .i64 k, .int .i64 ha, .int .i64 hb, .bool te, .int .i64 ta, .int .i64 tb, .slice AF i.facts.length cF, .slice AA i.atoms.length cA, .slice none 0 0, .slice none 0 0] tC)) w1.heap.size tC #[.int .i64 k, .int .i64 ha, .int .i64 hb, .bool te, .int .i64 ta, .int .i64 tb, .slice AF i.facts.length cF, .slice AA i.atoms.length cA, .slice none 0 0, .slice none 0 0] := Blk.new _ _ _
          have hBw : Hid (Below w1.heap.size w1 (w1.alloc (.cells #[.int .i64 k, .int .i64 ha, .int .i64 hb, .bool te, .int .i64 ta, .int .i64 tb, .slice AF i.facts.length cF, .slice AA i.atoms.length cA, .slice none 0 0, .slice none 0 0] tC))) := Lib.hid (bbox (Below.refl _ _) _)
          have hq1i := Lib.hid (show (q : Int) + 1 = ((q + 1 : Nat) : Int) by omega)
          clear of oa vF vA hB1 hc hN hbl HB
          by_cases hk : k = 6 ∨ k = 7
          · have hz0 := Lib.hid (blk_zero (m := m) (d := 0) hcc.out (by rw [hH.out]; exact hk) (by omega))
            have hR1 : Hid (R.2 = none) := Lib.hid (by rw [← hF2.out, hz0.out])
            have hR2 : Hid (acc = R.1) := Lib.hid (by rw [← hF1.out, hz0.out]; exact (app_nil acc).symm)
            have HB2 : Hid (Below w.heap.size w (w1.alloc (.cells #[.int .i64 k, .int .i64 ha, .int .i64 hb, .bool te, .int .i64 ta, .int .i64 tb, .slice AF i.facts.length cF, .slice AA i.atoms.length cA, .slice none 0 0, .slice none 0 0] tC))) := Lib.hid (HB1.out.trans (hBw.out.mono (by omega)))
            have HN2 := Lib.hid (HN1.out.below hBw.out)
            clear hz0 hH hF1 hF2
            rcases hk with rfl | rfl
            all_goals
              (replace qk0 := k0.cell; replace rk0 := k0.frozen; replace lk0 := k0.lt)
              go_wp2_with fail
              refine bodyPost_ret (v := .tuple #[.slice A5 acc.len c5, .int .i64 (-1)]) (by simp [results, Tryz.results119, go_sem]) rfl ⟨_, by rw [hR1.out]; rfl, by rw [← hR2.out]; exact HN2.out, HB2.out⟩
          · have hk6 : (k == 6) = false := by simp; omega
            have hk7 : (k == 7) = false := by simp; omega
            have hzb := Lib.hid (blk_basic (m := m) (d := 0) hcc.out (by rw [hH.out]; exact hk))
            have hstx : Hid (blkSt ls 0 R (acc.app (.cons k ha hb ⟨te, ta, tb⟩ i .nil .nil .nil)) (some (q + 1))) := Lib.hid (blkSt.mk (H := ⟨k, ha, hb, ⟨te, ta, tb⟩, i⟩) hm hF1.out hF2.out (Nat.le_refl _) (by rw [hzb.out, hH.out]))
            clear hzb hF1 hF2 hk
            (replace qk0 := k0.cell; replace rk0 := k0.frozen; replace lk0 := k0.lt)
            go_upto_region 17 with fail
            clear qk0 rk0 lk0
            rw [hq1i.out]
            generalize w1.alloc (.cells #[.int .i64 k, .int .i64 ha, .int .i64 hb, .bool te, .int .i64 ta, .int .i64 tb, .slice AF i.facts.length cF, .slice AA i.atoms.length cA, .slice none 0 0, .slice none 0 0] tC) = wx at *
            have hBx := hBw
            have kx := k0
            obtain ⟨nx, hnxe⟩ : ∃ nx, nx = some (q + 1) := ⟨_, rfl⟩
            have hati : ((q + 1 : Nat) : Int) = atI nx := by rw [hnxe]; rfl
            rw [hati]
            rw [← hnxe] at hstx
            have hnx : Hid (∀ r, nx = some r → q + 1 ≤ r ∧ r ≤ ls.length + 0) := Lib.hid (fun r e => by rw [hnxe] at e; injection e with e; subst e; omega)
            obtain ⟨AB, cB, AE, cE, hAB⟩ : ∃ (AB : Option Addr) (cB : Nat) (AE : Option Addr) (cE : Nat), AB = none ∧ cB = 0 ∧ AE = none ∧ cE = 0 := ⟨_, _, _, _, rfl, rfl, rfl, rfl⟩
            obtain ⟨body, hbody⟩ : ∃ body, body = Cms.nil := ⟨_, rfl⟩
            obtain ⟨els, hels⟩ : ∃ body, body = Cms.nil := ⟨_, rfl⟩
            have h3 : Hid (PartX wx (fun y => w.heap.size ≤ y ∧ (Value.slice A5 acc.len c5).ownBlock ≠ some y ∧ y ≠ w1.heap.size) AB body) := Lib.hid (by rw [hbody]; exact PartX.nil _)
            have h4 : Hid (PartX wx (fun y => w.heap.size ≤ y ∧ (Value.slice A5 acc.len c5).ownBlock ≠ some y ∧ y ≠ w1.heap.size) AE els) := Lib.hid (by rw [hels]; exact PartX.nil _)
            have hkx : Blk wx w1.heap.size tC #[.int .i64 k, .int .i64 ha, .int .i64 hb, .bool te, .int .i64 ta, .int .i64 tb, .slice AF i.facts.length cF, .slice AA i.atoms.length cA, .slice AB body.len cB, .slice AE els.len cE] := by rw [hAB.1, hAB.2.1, hAB.2.2.1, hAB.2.2.2, hbody, hels]; exact kx
            replace kx := hkx
            replace hstx : Hid (blkSt ls 0 R (acc.app (.cons k ha hb ⟨te, ta, tb⟩ i body els .nil)) nx) := Lib.hid (by rw [hbody, hels]; exact hstx.out)
            clear hAB hbody hels hkx hnxe hati k0 hBw hk6 hk7
            have hT0 := HN1.out.below hBx.out
            obtain ⟨cs, ho9, hT9, -⟩ := hT0
            replace hT9 := Lib.hid hT9
            replace ho9 := Lib.hid ho9
            have hl9 : w.heap.size ≤ wx.heap.size := by have := hBx.out.size; omega
            have XF9 := Lib.hid (XF.out.keep (w' := wx) fun y _ hy => hBx.out.block y hy)
            have XA9 := Lib.hid (XA.out.keep (w' := wx) fun y _ hy => hBx.out.block y hy)
            clear XF XA HN1
            have hfin : acc.len + 1 ≤ 1049600 ∧ w.heap.size ≤ w1.heap.size := by omega
            have hacc : acc.len + 1 ≤ ls.length + 0 := by omega
            obtain ⟨hfin, hw1⟩ := hfin
            have hq3 := Lib.hid (show 1 ≤ gk ∧ ls.length + 12 ≤ gk + q by omega)
            replace hacc := Lib.hid hacc
            replace hq1 := Lib.hid hq1
            replace hw1 := Lib.hid hw1
            have qkx := kx.cell
            have rkx := kx.frozen
            have lkx := kx.lt
            replace kx := Lib.hid kx
            clear hqi hgd he1b he2b hcc hm hxl hq0 hlti hlt hal hq2 hH hcb hz zr
            go_wp2_with (at_builtin; (refine appCX (base := w.heap.size) (g0 := wx.heap.size) rfl _ _ rfl rfl (own_below ho9.out (bbox (Below.refl _ _) _)) (tenL k ha hb ⟨te, ta, tb⟩ (.slice AF i.facts.length cF) (.slice AA i.atoms.length cA) (.slice AB body.len cB) (.slice AE els.len cE)) rfl (Blk.new _ _ _) rfl rfl (tenOne _ _ _ _ _ _ _ _ _ _ _ _ _ _ _ _) hfin (by simp; omega) ?_); (intro A8 c8 w8 o8 g8 B8 v8; have o8 := Lib.hid o8; have g8 := Lib.hid g8; have v8 := Lib.hid v8; have B8 := Lib.hid B8))
            have kX : ∀ y, y < wx.heap.size → (wx.alloc (.cells (tenL k ha hb ⟨te, ta, tb⟩ (.slice AF i.facts.length cF) (.slice AA i.atoms.length cA) (.slice AB body.len cB) (.slice AE els.len cE)).toArray tC)).heap[y]? = wx.heap[y]? := fun y hy => (bbox (Below.refl _ wx) _).block y hy
            have N8 : CmsN w8 w.heap.size (.slice A8 (acc.len + 1) c8) (acc.app (.cons k ha hb ⟨te, ta, tb⟩ i body els .nil)) := CmsN.grow (hT9.out.keep fun y _ hy => kX y hy) hfin ((XF9.out.mono fun y hy _ => ⟨hy.1, hy.2.1⟩).keep fun y _ hy => kX y hy) ((XA9.out.mono fun y hy _ => ⟨hy.1, hy.2.1⟩).keep fun y _ hy => kX y hy) ((h3.out.mono fun y hy _ => ⟨hy.1, hy.2.1⟩).keep fun y _ hy => kX y hy) ((h4.out.mono fun y hy _ => ⟨hy.1, hy.2.1⟩).keep fun y _ hy => kX y hy) o8.out g8.out v8.out
            have F8 : Below w.heap.size w w8 := ((HB1.out.trans (hBx.out.mono hw1.out)).alloc hl9 _).trans B8.out
            have hLl : (acc.app (.cons k ha hb ⟨te, ta, tb⟩ i body els .nil)).len = acc.len + 1 := by rw [Cms.len_app]; rfl
            go_roundg (gk - 1)
            case rel => exact ⟨acc.app (.cons k ha hb ⟨te, ta, tb⟩ i body els .nil), nx, rfl, Lib.hid N8, hstx, by rw [hLl]; exact hacc.out, Lib.hid (fun r e => by have := hnx.out r e; have := hq1.out; have := hq3.out; rw [hLl]; omega), Lib.hid F8⟩
            case measure => have := hq3.out; omega
        · have hlti : ¬ (q : Int) + 1 < (ls.length : Int) := by omega
          have hE := Lib.hid (hSt.out (fun h => hlt h.1))
          have hf : Hid (R.2 = some q) := Lib.hid hE.out.2
          have ha : Hid (acc = R.1) := Lib.hid hE.out.1
          clear hE hSt hst
          go_wp2_with fail
          refine bodyPost_ret (v := .tuple #[.slice A5 acc.len c5, .int .i64 q]) (by simp [results, Tryz.results119, go_sem]) rfl ⟨_, by rw [hf.out]; rfl, by rw [← ha.out]; exact hN.out, HB.out⟩
--@
end Go.Proofs.YteogcababfenfaaGreat
