/- What the reader draws: programs out of texts. -/
import Derived.Test.YteogcababfenfaaGreatMPrgV
import Derived.Test.YteogcababfenfaaGreatMDrawO
import Derived.Test.YteogcababfenfaaGreatMVisP
import Derived.Test.YteogcababfenfaaGreatMDrawV
import Derived.Test.YteogcababfenfaaGreatMDrawR
import Derived.Test.YteogcababfenfaaGreatDrawE
set_option linter.unusedSimpArgs false
set_option linter.unusedVariables false
namespace Go.Proofs.YteogcababfenfaaGreat
open Go Go.RowKit Go.Proofs
theorem Cms.invs_cost : ∀ {L : Cms}, L.invs → L.len + L.cost ≤ 19 * L.sz
  | .nil, _ => Nat.le_refl _
  | .cons k a b t i body els r, h => by
    have h1 := Cms.invs_cost h.2.1
    have h2 := Cms.invs_cost h.2.2.1
    have h3 := Cms.invs_cost h.2.2.2
    have h4 := h.1
    simp only [Cms.len, Cms.cost, Cms.sz]
    omega
theorem parseP_ok {l : Bs} (h : parsesP l = true) (h0 : l ≠ []) : 1 ≤ (parseP l).len ∧ (parseP l).len + (parseP l).cost ≤ 903 := by
  unfold parseP
  rw [if_pos h]
  unfold parsesP at h
  simp only [Bool.and_eq_true, decide_eq_true_eq] at h
  refine ⟨?_, ?_⟩
  · cases hL : readP l with
    | nil => rw [hL] at h; exact absurd h.2.1.symm h0
    | cons => simp [Cms.len]
  · have := Cms.invs_cost (L := readP l) (blkF_invs _ _ _ _)
    have := (prog_shape h.2.2).2
    omega
def strOf : Value → Bs
  | .string s => s.data.toList
  | _ => []
--@ (*spec.l18Rd).of
theorem c_of {lo hi : Nat} (g p : Nat) (A : Option Addr) (c : Nat) (xs : List Bs) (w : World) (h : Rdr w g p) (hp : p ≤ 1000000) (hx : StrsV w lo hi A xs) (hg : g < lo ∨ hi ≤ g) (hn : 0 < xs.length) :
    Calls Tryz.prog 79 #[.pointer (some ⟨g, 0, none⟩), .slice A xs.length c] w fun e w' => ∃ m ∈ xs, e = .returned (sv m) ∧ Rdr w' g (p + 1) ∧ Fr g w w' := by
  have H := Lib.hid h
  have HX := Lib.hid hx
  clear h hx
  go_enter Tryz.func79, Tryz.ntmps79
  go_wp2_with fail
  refine (c_pick g p _ _ H.out hp).mono ?_
  rintro e w1 ⟨m, rfl, hm, hR, hF⟩
  have hlt : m < xs.length := by omega
  obtain ⟨b, o, rfl, c0⟩ := StrsV.at (Rd.fr HX.out hF hg) hlt
  have hmi : (m : Int) < (xs.length : Int) := by omega
  have HRF := Lib.hid (And.intro hR hF)
  have hmem := Lib.hid (List.getElem_mem hlt)
  obtain ⟨x, hxx⟩ : ∃ x, x = xs[m] := ⟨_, rfl⟩
  rw [← hxx] at c0 hmem
  clear hm hR hF hxx
  go_wp2_with fail
  go_ret
  exact ⟨x, hmem.out, rfl, HRF.out.1, HRF.out.2⟩
theorem c_ofL (g p : Nat) (cs : Array Value) (x n : Nat) (w : World) (h : Rdr w g p) (hp : p ≤ 1000000) (hk : Blk w x tS cs) (hcs : cs = (encS (cs.toList.map strOf)).toArray) (hg : g < x) (hn : n = cs.size) (h0 : 0 < cs.size) (hl : ∀ u ∈ cs.toList.map strOf, 1 ≤ u.length ∧ u.length ≤ 4000) (hl1 : cs.size ≤ 100) :
    Calls Tryz.prog 79 #[.pointer (some ⟨g, 0, none⟩), .slice (some ⟨x, 0, none⟩) n n] w fun e w' => ∃ m : Bs, (1 ≤ m.length ∧ m.length ≤ 4000) ∧ e = .returned (sv m) ∧ Rdr w' g (p + 1) ∧ Fr g w w' := by
  have e : n = (cs.toList.map strOf).length := by rw [hn]; simp
  rw [e]
  refine (c_of (lo := x) (hi := x + 1) g p _ _ (cs.toList.map strOf) w h hp ⟨⟨by simp [encS], fun _ => ⟨x, 0, rfl, Nat.le_refl _, Nat.lt_succ_self _, fun j u hu => ?_⟩⟩, by unfold Lim; simp; omega⟩ (Or.inl hg) (by simpa using h0)).mono ?_
  · rw [Nat.zero_add, hk.cell, hcs]
    simpa using hu
  · rintro e w' ⟨m, hm, rfl, h1, h2⟩
    exact ⟨m, hl m hm, rfl, h1, h2⟩
--@ spec.l9Fuel
set_option maxRecDepth 100000 in
theorem c_l9Fuel (g p : Nat) (w : World) (h : Rdr w g p) (hp : p ≤ 1000000) :
    Calls Tryz.prog 41 #[.pointer (some ⟨g, 0, none⟩)] w fun e w' => ∃ m : Int, (-1 ≤ m ∧ m ≤ 201) ∧ e = .returned (.int .i64 m) ∧ Rdr w' g (p + 1) ∧ Fr g w w' := by
  have H := Lib.hid h
  have hlt := h.lt
  clear h
  go_enter Tryz.func41, Tryz.ntmps41
  go_wp2_with fail
  refine (c_numL g p [100, 60, 200, 5, 0, 201, -1] _ _ _ _ (H.out.below bel) hp blks (by rfl) hlt (by rfl) (by simp) (by simp)).mono ?_
  rintro e w1 ⟨m, hm, rfl, hR, hF⟩
  have hF1 : Hid (Fr g w w1) := ((Fr.refl g w).alloc _).trans hF
  have HR := Lib.hid hR
  have hb := (by decide : ∀ m ∈ [(100 : Int), 60, 200, 5, 0, 201, -1], -1 ≤ m ∧ m ≤ 201) m hm
  clear hR hF hm
  replace hb := Lib.hid hb
  go_wp2_with fail
  go_ret
  exact ⟨m, hb.out, rfl, HR.out, hF1.out⟩
--@ spec.l9Code
set_option maxRecDepth 100000 in
set_option maxHeartbeats 3200000 in
theorem c_l9Code (g p : Nat) (w : World) (h : Rdr w g p) (hp : p ≤ 700000) :
    Calls Tryz.prog 40 #[.pointer (some ⟨g, 0, none⟩)] w fun e w' => ∃ A c L q, e = .returned (.slice A (Cms.len L) c) ∧ CmsV w' w.heap.size w'.heap.size A L ∧ 1 ≤ L.len ∧ L.len + L.cost ≤ 903 ∧ Rdr w' g q ∧ q ≤ p + 90000 ∧ Fr g w w' := by
  have H := Lib.hid h
  have hlt := h.lt
  clear h
  go_enter Tryz.func40, Tryz.ntmps40
  go_wp2_with fail
  refine (c_ofL g p _ _ _ _ (H.out.below bel) (by omega) blks (by rfl) hlt (by rfl) (by decide) (by decide) (by decide)).mono ?_
  rintro e w1 ⟨l, hl, rfl, hR, hF⟩
  have hF1 : Hid (Fr g w w1) := ((Fr.refl g w).alloc _).trans hF
  have HR1 := Lib.hid hR
  have z1 := hF1.out.size
  have hg1 : g < w1.heap.size := by omega
  clear hR hF H
  obtain ⟨hl1, hl2⟩ := hl
  have cP := Lib.hid (fun W => c_ParseProgram l W (by omega))
  have hok := Lib.hid (fun h => parseP_ok (l := l) h (by intro e; subst e; simp at hl1))
  obtain ⟨ok, hk⟩ : ∃ ok, ok = parsesP l := ⟨_, rfl⟩
  obtain ⟨L, hL⟩ : ∃ L, L = parseP l := ⟨_, rfl⟩
  rw [← hk, ← hL] at cP hok
  clear hk hL hl1 hl2
  go_wp2_with fail
  refine (cP.out _).mono ?_
  rintro e w2 ⟨v, rfl, N2, hB2⟩
  obtain ⟨A2, d2, rfl, V2⟩ := N2.reads
  have HF2 : Hid (Fr g w w2) := Lib.hid (hF1.out.trans (Fr.ofBelow hB2))
  have HR2 := Lib.hid (HR1.out.below hB2)
  have HV2 := Lib.hid (V2.mono z1 (Nat.le_refl _))
  have z2 := HF2.out.size
  have hg2 : g < w2.heap.size := by omega
  clear N2 V2 hB2 hF1 HR1 cP
  cases ok
  · go_wp2_with fail
    refine (c_l8Program g _ _ HR2.out (by omega)).mono ?_
    rintro e w3 ⟨A3, c3, L3, q, rfl, hV, hL1, hLS, hR, hq, hF⟩
    have HF3 := Lib.hid (HF2.out.trans hF)
    have HV3 := Lib.hid (hV.mono z2 (Nat.le_refl _))
    have HR3 := Lib.hid hR
    clear hV hR hF
    go_wp2_with fail
    go_ret
    exact ⟨A3, c3, L3, q, rfl, HV3.out, hL1, hLS, HR3.out, by omega, HF3.out⟩
  · go_wp2_with fail
    refine (c_pick g _ 3 _ HR2.out (by omega)).mono ?_
    rintro e w3 ⟨m, rfl, -, hR, hF⟩
    have HF3 := Lib.hid (HF2.out.trans hF)
    have HR3 := Lib.hid hR
    have z3 := HF3.out.size
    clear hR
    have HV3 := Lib.hid (show CmsV w3 w.heap.size w3.heap.size A2 L from (HV2.out.keep (fun b h1 h2 => hF.block b h2 (by omega))).mono (Nat.le_refl _) hF.size)
    clear hF
    by_cases hm : (0 : Int) < (m : Int)
    · have hs := Lib.hid (hok.out (by simp))
      go_wp2_with fail
      go_ret
      exact ⟨A2, d2, L, p + 1 + 1, rfl, HV3.out, hs.out.1, hs.out.2, HR3.out, by omega, HF3.out⟩
    · go_wp2_with fail
      refine (c_l8Program g _ _ HR3.out (by omega)).mono ?_
      rintro e w4 ⟨A4, c4, L4, q, rfl, hV, hL1, hLS, hR, hq, hF⟩
      have HF4 := Lib.hid (HF3.out.trans hF)
      have HV4 := Lib.hid (hV.mono z3 (Nat.le_refl _))
      have HR4 := Lib.hid hR
      clear hV hR hF
      go_wp2_with fail
      go_ret
      exact ⟨A4, c4, L4, q, rfl, HV4.out, hL1, hLS, HR4.out, by omega, HF4.out⟩
--@
end Go.Proofs.YteogcababfenfaaGreat

/- What the reader draws: states with lists; programs, states and fuel. -/
namespace Go.Proofs.YteogcababfenfaaGreat
open Go Go.RowKit Go.Proofs
/-- the state under way -/
def LS (w : World) (x g : Nat) (A : Option Addr) (c : Nat) (B : Option Addr) (d : Nat) (wr : World) (q : Nat) (vs hs : List Int) : Prop :=
  IntsO wr w.heap.size (.slice A 8 c) vs ∧ IntsO wr w.heap.size (.slice B 8 d) hs ∧ Blk wr w.heap.size tSt #[.slice none 0 0, .slice none 0 0] ∧ Blk wr x tSt #[.slice A 8 c, .slice B 8 d] ∧ Rdr wr g q ∧ Fr g w wr ∧ vs.length = 8 ∧ hs.length = 8
section
variable {w wr w' : World} {x g c d q : Nat} {A B : Option Addr} {vs hs : List Int}
theorem LS.next {q' : Nat} (h : LS w x g A c B d wr q vs hs) (hf : Fr g wr w') (hR : Rdr w' g q') (hg : g < w.heap.size) (hx : x ≠ g) : LS w x g A c B d w' q' vs hs := by
  obtain ⟨h1, h2, h3, h4, h5, h6, h7⟩ := h
  exact ⟨h1.fr hf hg, h2.fr hf hg, h3.fr hf (by omega), h4.fr hf hx, hR, h6.trans hf, h7⟩
theorem LS.setv (h : LS w x g A c B d wr q vs hs) (hg : g < w.heap.size) (dj : Dj (.slice A 8 c) (.slice B 8 d)) {k : Nat} (hk : k < 8) : ∃ gv cur y, A = some ⟨gv, 0, none⟩ ∧ w.heap.size ≤ gv ∧ Blk wr gv tI cur ∧ cur[k]? = some (.int .i64 y) ∧ gv ≠ x ∧ gv ≠ w.heap.size ∧
    ∀ m, LS w x g A c B d (wr.setCell ⟨gv, k, none⟩ (.int .i64 m)) q (vs.set k m) hs := by
  obtain ⟨h1, h2, h3, h4, h5, h6, h7, h8⟩ := h
  obtain ⟨gv, cur, -, hA, hgv, kv, hcm, hset⟩ := h1.cell_ (k := k) (by omega)
  have hgx : gv ≠ x := Blk.ne_ kv h4 (by decide)
  have hgr : gv ≠ w.heap.size := Blk.ne_ kv h3 (by decide)
  refine ⟨gv, cur, _, hA, hgv, kv, hcm, hgx, hgr, fun m => ⟨hset m, h2.set_ne (q := ⟨gv, k, none⟩) (fun e => dj gv (by rw [hA]; rfl) e) _, h3.far (by simp only; omega) _, h4.far (by simp only; omega) _, h5.set_ (by simp only; omega) _, h6.set_ (Or.inr (by simp only; omega)) _, by simpa using h7, h8⟩⟩
theorem LS.seth (h : LS w x g A c B d wr q vs hs) (hg : g < w.heap.size) (dj : Dj (.slice A 8 c) (.slice B 8 d)) {k : Nat} (hk : k < 8) : ∃ gv cur y, B = some ⟨gv, 0, none⟩ ∧ w.heap.size ≤ gv ∧ Blk wr gv tI cur ∧ cur[k]? = some (.int .i64 y) ∧ gv ≠ x ∧ gv ≠ w.heap.size ∧
    ∀ m, LS w x g A c B d (wr.setCell ⟨gv, k, none⟩ (.int .i64 m)) q vs (hs.set k m) := by
  obtain ⟨h1, h2, h3, h4, h5, h6, h7, h8⟩ := h
  obtain ⟨gv, cur, -, hA, hgv, kv, hcm, hset⟩ := h2.cell_ (k := k) (by omega)
  have hgx : gv ≠ x := Blk.ne_ kv h4 (by decide)
  have hgr : gv ≠ w.heap.size := Blk.ne_ kv h3 (by decide)
  refine ⟨gv, cur, _, hA, hgv, kv, hcm, hgx, hgr, fun m => ⟨h1.set_ne (q := ⟨gv, k, none⟩) (fun e => dj gv e (by rw [hA]; rfl)) _, hset m, h3.far (by simp only; omega) _, h4.far (by simp only; omega) _, h5.set_ (by simp only; omega) _, h6.set_ (Or.inr (by simp only; omega)) _, h7, by simpa using h8⟩⟩
end
--@ spec.l9Lists
set_option maxRecDepth 100000 in
set_option maxHeartbeats 6400000 in
theorem c_l9Lists (g p : Nat) (w : World) (h : Rdr w g p) (hp : p ≤ 999900) :
    Calls Tryz.prog 38 #[.pointer (some ⟨g, 0, none⟩)] w fun e w' => ∃ r s q, e = .returned r ∧ StateO w' w.heap.size r s ∧ s.values.length = 8 ∧ s.heap.length = 8 ∧ Rdr w' g q ∧ q ≤ p + 10 ∧ Fr g w w' := by
  have H := Lib.hid h
  have hlt := h.lt
  clear h
  go_enter Tryz.func38, Tryz.ntmps38
  have kr : Blk (w.alloc (.cells #[.slice none 0 0, .slice none 0 0] tSt)) w.heap.size tSt #[.slice none 0 0, .slice none 0 0] := blks
  go_wp2_with fail
  refine (c_l2Blank _).mono ?_
  rintro e w1 ⟨r1, rfl, o1, hB1⟩
  have hsz1 := hB1.size
  rw [World.size_alloc] at hsz1
  have hB := bgo (w := w) bel hB1
  replace kr := kr.next hB1
  replace o1 := o1.lower (base' := w.heap.size) (by simp)
  obtain ⟨fv, av, rfl, ov, oh, dj⟩ := o1
  obtain ⟨A, c, rfl, -⟩ := ov.reads
  obtain ⟨B, d, rfl, -⟩ := oh.reads
  simp only [blankS, List.length_replicate] at dj ov oh ⊢
  have DJ : Hid (Dj (.slice A 8 c) (.slice B 8 d)) := Lib.hid dj
  clear dj
  have hL0 : Hid (LS w w1.heap.size g A c B d (w1.alloc (.cells #[.slice A 8 c, .slice B 8 d] tSt)) p (List.replicate 8 0) (List.replicate 8 (-1))) := Lib.hid
    ⟨ov.below (bbox (Below.refl _ _) _), oh.below (bbox (Below.refl _ _) _), kr.alloc _, Blk.new _ _ _, (H.out.below hB).below (bbox (Below.refl _ _) _), (Fr.ofBelow hB).alloc _, by simp, by simp⟩
  clear hB1 hB ov oh H kr
  go_wp2_with fail
  go_loopw [4, 5] (fun s4 s5 wr => ∃ (k m q : Nat) (vs hs : List Int), k ≤ 2 ∧ m ≤ 3 * k ∧ q ≤ p + k ∧ s4 = .int .i64 ((m : Int) + 1) ∧ s5 = .int .i64 ((k : Int) + 1) ∧ Hid (LS w w1.heap.size g A c B d wr q vs hs)) (fun _ s5 _ => 4 - (intOf s5).toNat)
  case atStart => exact ⟨0, 0, p, _, _, by omega, by omega, by omega, rfl, rfl, hL0⟩
  case round =>
    clear hL0
    obtain ⟨k, m, q, vs, hs, hk, hm, hq, rfl, rfl, hL⟩ := hrel
    have lx := hL.out.2.2.2.1.lt
    by_cases hk2 : k < 2
    · have hki : (k : Int) + 1 ≤ 2 := by omega
      go_wp2_with fail
      refine (c_numL g q [2, 1, 0, 3] _ _ _ _ (hL.out.2.2.2.2.1.below bel) (by omega) blks (by rfl) (by omega) (by rfl) (by decide) (by decide)).mono ?_
      rintro e w2 ⟨n, hn, rfl, hR, hF⟩
      have hL2 := Lib.hid (hL.out.next (w' := w2) (((Fr.refl g wr).alloc _).trans hF) hR hlt (by omega))
      obtain ⟨n, rfl⟩ := Int.eq_ofNat_of_zero_le ((by decide : ∀ m ∈ [(2 : Int), 1, 0, 3], 0 ≤ m) n hn)
      have hn3 : n ≤ 3 := by have := (by decide : ∀ m ∈ [(2 : Int), 1, 0, 3], m ≤ 3) _ hn; omega
      clear hR hF hn hL
      by_cases hn0 : 0 < n
      · have hni : (0 : Int) < (n : Int) := by omega
        obtain ⟨gv, cur, y, hA, hgv, kv, hcm, hgx, hgr, hset⟩ := hL2.out.setv hlt DJ.out (show k < 8 by omega)
        have kx := hL2.out.2.2.2.1
        have qx := kx.cell
        have rx := kx.frozen
        have qv := (kv.cell k).trans hcm
        have rv := kv.frozen
        have lx2 := kx.lt
        subst hA
        have HS := Lib.hid (hset ((m : Int) + 1))
        replace kv := Lib.hid kv
        replace kx := Lib.hid kx
        clear hset hcm
        go_wp2_with fail
        clear qx rx qv rv
        go_loopw [4, 7] (fun s4 s7 wx => ∃ (j m' : Nat) (vs hs : List Int), j ≤ n ∧ m' ≤ 3 * k + j ∧ s4 = .int .i64 ((m' : Int) + 1) ∧ s7 = .int .i64 ((j : Int) + 1) ∧ Hid (LS w w1.heap.size g (some ⟨gv, 0, none⟩) c B d wx (q + 1) vs hs)) (fun _ s7 _ => 5 - (intOf s7).toNat)
        case atStart => exact ⟨0, m, _, hs, by omega, by omega, rfl, rfl, HS⟩
        case round =>
          clear HS
          obtain ⟨j, m', vs2, hs2, hj, hm', rfl, rfl, hM⟩ := hrel
          by_cases hjn : j < n
          · have hji : (j : Int) + 1 ≤ (n : Int) := by omega
            obtain ⟨gh, cur2, y2, hB2, hgh, kh, hch, hhx, hhr, hset2⟩ := hM.out.seth hlt DJ.out (show m' < 8 by omega)
            have kx := hM.out.2.2.2.1
            have qx := kx.cell
            have rx := kx.frozen
            have lx3 := kx.lt
            have qh := (kh.cell m').trans hch
            have rh := kh.frozen
            subst hB2
            have HS0 := Lib.hid (hset2 0)
            obtain ⟨gh', cur3, y3, hB3, -, kh2, hch2, -, -, hset3⟩ := HS0.out.seth hlt DJ.out (show m' < 8 by omega)
            injection hB3 with hB3
            injection hB3 with hB3
            subst hB3
            have HS1 := Lib.hid (hset3 ((m' : Int) + 1 + 1))
            replace kh := Lib.hid kh
            replace kx := Lib.hid kx
            clear hset2 hch hset3 hch2 kh2
            by_cases hjl : j + 1 < n
            · have hjli : (j : Int) + 1 < (n : Int) := by omega
              go_wp2_with fail
              go_round
              case rel => exact ⟨j + 1, m' + 1, _, _, by omega, by omega, by go_num, by go_num, HS1⟩
              case measure => simp [intOf]; omega
            · have hjli : ¬ (j : Int) + 1 < (n : Int) := by omega
              go_wp2_with fail
              go_round
              case rel => exact ⟨j + 1, m' + 1, _, _, by omega, by omega, by go_num, by go_num, HS0⟩
              case measure => simp [intOf]; omega
          · obtain rfl : j = n := by omega
            go_wp2_with fail
            go_round
            case rel => exact ⟨k + 1, m', q + 1, vs2, hs2, by omega, by omega, by omega, rfl, by go_num, hM⟩
            case measure => simp [intOf]; omega
      · have hni : ¬ (0 : Int) < (n : Int) := by omega
        obtain rfl : n = 0 := by omega
        clear hni hn0
        go_wp2_with fail
        go_loopw [4, 7] (fun s4 s7 wx => s4 = .int .i64 ((m : Int) + 1) ∧ s7 = .int .i64 1 ∧ wx = w2) (fun _ _ _ => 0)
        case atStart => exact ⟨rfl, rfl, rfl⟩
        case round =>
          obtain ⟨rfl, rfl, rfl⟩ := hrel
          go_wp2_with fail
          go_round
          case rel => exact ⟨k + 1, m, q + 1, vs, hs, by omega, by omega, by omega, rfl, by go_num, hL2⟩
          case measure => simp [intOf]; omega
    · obtain rfl : k = 2 := by omega
      go_wp2_with fail
      go_loopw [8] (fun s8 wx => ∃ (k q' : Nat) (vs hs : List Int), k ≤ 6 ∧ q' ≤ p + 2 + k ∧ s8 = .int .i64 ((k : Int) + 3) ∧ Hid (LS w w1.heap.size g A c B d wx q' vs hs)) (fun s8 _ => 10 - (intOf s8).toNat)
      case atStart => exact ⟨0, q, vs, hs, by omega, by omega, rfl, hL⟩
      case round =>
        clear hL lx
        obtain ⟨k, q', vs2, hs2, hk6, hq', rfl, hL⟩ := hrel
        by_cases hlt6 : k < 6
        · have hki : (k : Int) + 3 ≤ 8 := by omega
          obtain ⟨gv, cur0, y0, hA, hgv, -⟩ := hL.out.setv hlt DJ.out (show k + 2 < 8 by omega)
          subst hA
          have kx := hL.out.2.2.2.1
          have lx := kx.lt
          have hsz := hL.out.2.2.2.2.2.1.size
          have hwr : IntKind.i64.wrap ((k : Int) + 3 - 1) = (k : Int) + 2 := by rw [show (k : Int) + 3 - 1 = (k : Int) + 2 by omega]; exact IntWalk.i64_in _ (by omega)
          go_wp2_with fail
          refine wp_region_noPanic ?_
          refine wp_region_held_drew (S := (fun w' => ∀ i, w'.cell? ⟨w1.heap.size, i, none⟩ = #[.slice (some ⟨gv, 0, none⟩) 8 c, .slice B 8 d][i]?)) (by kernel_rfl) (Blk.cell blks) (fun hHeld => ?_)
          refine wpAnyH_take (i := 0) (v := ?_) rfl (by kernel_rfl) (by kernel_rfl) (by kernel_rfl) (fun _ _ _ h => h) (Or.inl ⟨by rfl, fun w hSw => ?_⟩) hHeld ?_
          rotate_left
          · ((try dsimp only at hSw); go_split_ands; go_simp; (try with_reducible rfl))
          try simp only [Act.put, List.getElem_toArray, List.getElem_cons_zero, List.getElem_cons_succ, List.setIfInBounds_toArray, List.set_cons_zero, List.set_cons_succ]
          refine wpAnyH_take (i := 1) (v := ?_) rfl (by kernel_rfl) (by kernel_rfl) (by kernel_rfl) (fun _ _ _ h => h) (Or.inl ⟨by rfl, fun w hSw => ?_⟩) hHeld ?_
          rotate_left
          · ((try dsimp only at hSw); go_split_ands; go_simp; (try with_reducible rfl))
          try simp only [Act.put, List.getElem_toArray, List.getElem_cons_zero, List.getElem_cons_succ, List.setIfInBounds_toArray, List.set_cons_zero, List.set_cons_succ]
          refine wpAnyH_take (i := 2) (v := ?_) rfl (by kernel_rfl) (by kernel_rfl) (by kernel_rfl) (fun _ _ _ h => h) (Or.inl ⟨by rfl, fun w hSw => ?_⟩) hHeld ?_
          rotate_left
          · ((try dsimp only at hSw); go_split_ands; go_simp; (try with_reducible rfl))
          try simp only [Act.put, List.getElem_toArray, List.getElem_cons_zero, List.getElem_cons_succ, List.setIfInBounds_toArray, List.set_cons_zero, List.set_cons_succ]
          refine wpAnyH_take (i := 3) (v := ?_) rfl (by kernel_rfl) (by kernel_rfl) (by kernel_rfl) (fun _ _ _ h => h) (Or.inl ⟨by rfl, fun w hSw => ?_⟩) hHeld ?_
          rotate_left
          · ((try dsimp only at hSw); go_split_ands; go_simp; (try with_reducible rfl))
          try simp only [Act.put, List.getElem_toArray, List.getElem_cons_zero, List.getElem_cons_succ, List.setIfInBounds_toArray, List.set_cons_zero, List.set_cons_succ]
          refine wpAnyH_take (i := 4) (v := ?_) rfl (by kernel_rfl) (by kernel_rfl) (by kernel_rfl) (fun _ _ _ h => h) (Or.inl ⟨by rfl, fun w hSw => ?_⟩) hHeld ?_
          rotate_left
          · ((try dsimp only at hSw); go_split_ands; go_simp; (try with_reducible rfl))
          try simp only [Act.put, List.getElem_toArray, List.getElem_cons_zero, List.getElem_cons_succ, List.setIfInBounds_toArray, List.set_cons_zero, List.set_cons_succ]
          refine wpAnyH_ready (rs := [5]) (by kernel_rfl) (by simp) ?_
          refine AllReadyH.cons rfl (fun K hK => ?_) AllReadyH.nil
          try simp only [List.getElem_toArray, List.getElem_cons_zero, List.getElem_cons_succ]
          go_simp
          refine hK.out _ _ (Blk.cell blks) (fun hHeldN => ?_)
          clear hHeld hK K
          have hHeld := hHeldN
          clear hHeldN
          try simp only [Act.put, List.getElem_toArray, List.getElem_cons_zero, List.getElem_cons_succ, List.setIfInBounds_toArray, List.set_cons_zero, List.set_cons_succ]
          refine wpAnyH_ready (rs := [6]) (by kernel_rfl) (by simp) ?_
          refine AllReadyH.cons rfl (fun K hK => ?_) AllReadyH.nil
          try simp only [List.getElem_toArray, List.getElem_cons_zero, List.getElem_cons_succ]
          (go_simp; refine (c_numL g q' [0, 1, 2, 0, 3] _ _ _ _ (hL.out.2.2.2.2.1.below bel) (by omega) blks (by rfl) (by first | omega | (simp; omega)) (by rfl) (by decide) (by decide)).mono ?_; rintro e w4 ⟨n, hn, rfl, hR, hF⟩; have HL4 := Lib.hid (hL.out.next (w' := w4) ((((Fr.refl g _).drew).alloc _).trans hF) hR hlt (by omega)); have kx4 := HL4.out.2.2.2.1; clear hR hF hn)
          refine hK.out _ _ (kx4.cell) (fun hHeldN => ?_)
          clear hHeld hK K
          have hHeld := hHeldN
          clear hHeldN
          try simp only [Act.put, List.getElem_toArray, List.getElem_cons_zero, List.getElem_cons_succ, List.setIfInBounds_toArray, List.set_cons_zero, List.set_cons_succ]
          obtain ⟨gv2, cur, y, hA2, hgv2, kv, hcm, hgx, hgr, hset⟩ := HL4.out.setv hlt DJ.out (show k + 2 < 8 by omega)
          injection hA2 with hA2
          injection hA2 with hA2
          subst hA2
          have HSET := Lib.hid (hset n)
          have qv := (kv.cell (k + 2)).trans hcm
          have rv := kv.frozen
          clear hset hcm
          have hi1 : 0 ≤ (k : Int) + 2 := by omega
          have hi2 : (k : Int) + 2 < 8 := by omega
          have hi3 : ((k : Int) + 2).toNat = k + 2 := by omega
          refine wpAnyH_take (i := 7) (v := ?_) rfl (by kernel_rfl) (by kernel_rfl) (by kernel_rfl) (fun _ _ _ h => h) (Or.inl ⟨by rfl, fun w hSw => ?_⟩) hHeld ?_
          rotate_left
          · ((try dsimp only at hSw); go_split_ands; go_simp; (try with_reducible rfl))
          try simp only [Act.put, List.getElem_toArray, List.getElem_cons_zero, List.getElem_cons_succ, List.setIfInBounds_toArray, List.set_cons_zero, List.set_cons_succ]
          refine wpAnyH_ready (rs := [8]) (by kernel_rfl) (by simp) ?_
          refine AllReadyH.cons rfl (fun K hK => ?_) AllReadyH.nil
          try simp only [List.getElem_toArray, List.getElem_cons_zero, List.getElem_cons_succ]
          go_simp
          refine hK.out _ _ (Blk.cell blks) (fun hHeldN => ?_)
          clear hHeld hK K
          have hHeld := hHeldN
          clear hHeldN
          try simp only [Act.put, List.getElem_toArray, List.getElem_cons_zero, List.getElem_cons_succ, List.setIfInBounds_toArray, List.set_cons_zero, List.set_cons_succ]
          refine wpAnyH_done (by kernel_rfl) ?_ _
          refine NoPanic.normal ?_
          clear hwr hi1 hi2 hi3
          go_wp2_with fail
          go_round
          case rel => exact ⟨k + 1, by omega, q' + 1, by omega, by go_num, vs2.set (k + 2) n, hs2, HSET⟩
          case measure => simp [intOf]; omega
        · obtain rfl : k = 6 := by omega
          obtain ⟨o1, o2, k0, kx, hR, hF, h7, h8⟩ := hL.out
          have q0 := k0.cell
          have r0 := k0.frozen
          have l0 := k0.lt
          have qx := kx.cell
          have rx := kx.frozen
          have lx := kx.lt
          have O1 := Lib.hid o1
          have O2 := Lib.hid o2
          have HRF := Lib.hid (And.intro hR hF)
          clear hL o1 o2 hR hF
          go_wp2_with fail
          have kz := ((k0.set_ 0 (.slice A 8 c)).set_ 1 (.slice B 8 d)).cell
          refine bodyPost_ret (v := .agg #[.slice A 8 c, .slice B 8 d]) (by simp [results, Tryz.results38, go_sem, kz]) rfl ⟨_, ⟨vs2, hs2⟩, q', rfl, ⟨_, _, rfl, ?_, ?_, DJ.out⟩, h7, h8, ?_, by omega, ?_⟩
          · exact (O1.out.setT k0 (by decide) 0 _).setT (k0.set_ _ _) (by decide) 1 _
          · exact (O2.out.setT k0 (by decide) 0 _).setT (k0.set_ _ _) (by decide) 1 _
          · exact (HRF.out.1.set_ (by simp only; omega) _).set_ (by simp only; omega) _
          · exact (HRF.out.2.set_ (Or.inr (by simp only; omega)) _).set_ (Or.inr (by simp only; omega)) _
--@
end Go.Proofs.YteogcababfenfaaGreat

/- What is drawn: states, programs and fuel for the laws of runs. -/
namespace Go.Proofs.YteogcababfenfaaGreat
open Go Go.RowKit Go.Proofs
--@ spec.DrawRunProgram
set_option maxRecDepth 100000 in
set_option maxHeartbeats 6400000 in
theorem c_DrawRun (A : Option Addr) (n c : Nat) (w : World) (h : BytesR w A n c) :
    Calls Tryz.prog 14 #[.slice A n c] w fun e w' => ∃ r s A' c' L f, e = .returned (.tuple #[r, .slice A' (Cms.len L) c', .int .i64 f]) ∧ StateO w' w.heap.size r s ∧ s.values.length ≤ 900 ∧ s.heap.length ≤ 901 ∧ CmsV w' w.heap.size w'.heap.size A' L ∧ L.len + L.cost ≤ 1000 ∧ (L.len ≤ c' ∧ 1 ≤ L.len) ∧ (-1 ≤ f ∧ f ≤ 201) ∧ Below w.heap.size w w' := by
  have HR0 : Hid (BytesR (w.alloc (.cells #[.slice none 0 0, .slice none 0 0] tSt)) A n c) := by
    obtain ⟨bs, h1, h2, h3⟩ := h
    exact ⟨bs, h1, (h2.below (bbox (Below.refl _ _) _)).mono (Nat.le_refl _) (by simp), h3⟩
  clear h
  go_enter Tryz.func14, Tryz.ntmps14
  have k0 : Blk (w.alloc (.cells #[.slice none 0 0, .slice none 0 0] tSt)) w.heap.size tSt #[.slice none 0 0, .slice none 0 0] := blks
  have hB0 : Below w.heap.size w (w.alloc (.cells #[.slice none 0 0, .slice none 0 0] tSt)) := bbox (Below.refl _ _) _
  have hs0 : w.heap.size + 1 ≤ (w.alloc (.cells #[.slice none 0 0, .slice none 0 0] tSt)).heap.size := by simp
  go_wp2_with fail
  generalize w.alloc (.cells #[.slice none 0 0, .slice none 0 0] tSt) = W0 at k0 hB0 hs0 HR0 ⊢
  refine (c_l18Open A n c _ HR0.out).mono ?_
  rintro e w1 ⟨g, rfl, hg, hR, hB1⟩
  replace k0 := k0.next hB1
  have HB1 := Lib.hid (bgo hB0 hB1)
  have HR1 := Lib.hid hR
  have lg := hR.lt
  have z1 : w.heap.size + 1 ≤ w1.heap.size := Nat.le_trans hs0 hB1.size
  have hgw : w.heap.size < g := by omega
  clear hR hB1 HR0 hB0
  go_wp2_with fail
  refine (c_l9Lists g 0 _ HR1.out (by omega)).mono ?_
  rintro e w2 ⟨r2, s2, q2, rfl, o2, h8a, h8b, hR, hq2, hF⟩
  have k2 := Lib.hid (k0.fr hF (by omega))
  have HB2 : Hid (Below w.heap.size w w2) := Lib.hid (HB1.out.trans (hF.below (by omega) (by omega)))
  have HR2 := Lib.hid hR
  have HO2 := Lib.hid o2
  have z2 := hF.size
  clear hR hF o2 k0 HR1
  go_wp2_with fail
  refine (c_l2Mutate g q2 _ s2 _ HR2.out (by omega) HO2.out.reads (by omega) (by omega)).mono ?_
  rintro e w3 ⟨r3, s3, q3, rfl, o3, hl3, hl3b, hR, hq3, hF⟩
  have k3 := Lib.hid (k2.out.fr hF (by omega))
  have HB3 : Hid (Below w.heap.size w w3) := Lib.hid (HB2.out.trans (hF.below (by omega) (by omega)))
  have HR3 := Lib.hid hR
  have z3 := hF.size
  obtain ⟨fv, av, rfl, o31, o32, dj⟩ := o3
  obtain ⟨V3, c3, rfl, -⟩ := o31.reads
  obtain ⟨H3, d3, rfl, -⟩ := o32.reads
  have hg2 : g < w2.heap.size := by omega
  have P1 := Lib.hid o31
  have P2 := Lib.hid o32
  have DJ := Lib.hid dj
  clear hR hF k2 HR2 HO2 o31 o32 dj h8a h8b
  have kx : Blk (w3.alloc (.cells #[.slice V3 s3.values.length c3, .slice H3 s3.heap.length d3] tSt)) w3.heap.size tSt #[.slice V3 s3.values.length c3, .slice H3 s3.heap.length d3] := Blk.new _ _ _
  go_wp2_with fail
  refine (c_l9Code g q3 _ (HR3.out.below bel) (by omega)).mono ?_
  rintro e w4 ⟨A4, c4, L4, q4, rfl, hV, hL1, hLS, hR, hq4, hF⟩
  have hg3 : g < (w3.alloc (.cells #[.slice V3 s3.values.length c3, .slice H3 s3.heap.length d3] tSt)).heap.size := by simp; omega
  have k4 := Lib.hid ((k3.out.alloc _).fr hF (by omega))
  have kx4 := Lib.hid (kx.fr hF (by omega))
  have z4 := hF.size
  simp only [World.size_alloc] at z4
  have HB4 : Hid (Below w.heap.size w w4) := Lib.hid ((HB3.out.alloc (by omega) _).trans (hF.below (by omega) (by simp; omega)))
  have Q1 := Lib.hid ((P1.out.below (bbox (Below.refl _ _) (.cells #[.slice V3 s3.values.length c3, .slice H3 s3.heap.length d3] tSt))).fr hF hg2)
  have Q2 := Lib.hid ((P2.out.below (bbox (Below.refl _ _) (.cells #[.slice V3 s3.values.length c3, .slice H3 s3.heap.length d3] tSt))).fr hF hg2)
  have HR4 := Lib.hid hR
  have HV4 := Lib.hid hV
  clear hR hF hV k3 kx P1 P2 HB3 HR3
  go_wp2_with fail
  refine (c_l8Mutate g q4 _ L4 A4 c4 _ _ HR4.out (by omega) HV4.out hL1 hLS).mono ?_
  rintro e w5 ⟨A5, c5, L5, rfl, hV, hLS5, ⟨q5, hq5, hRd⟩, hcap, hne⟩
  have hF := hRd.2.1
  have HR5 := Lib.hid hRd.2.2
  have k5 := Lib.hid (k4.out.fr hF (by omega))
  have kx5 := kx4.out.fr hF (by omega)
  have z5 := hF.size
  have HB5 : Hid (Below w.heap.size w w5) := Lib.hid (HB4.out.trans (hF.below (by omega) (by omega)))
  have T1 := Lib.hid (Q1.out.fr hF hg2)
  have T2 := Lib.hid (Q2.out.fr hF hg2)
  have HV5 := Lib.hid hV
  have hgx : g ≠ w3.heap.size := by omega
  clear hRd hF hV k4 kx4 Q1 Q2 HB4 HR4 HV4
  (replace qkx5 := kx5.cell; replace rkx5 := kx5.frozen; replace lkx5 := kx5.lt)
  go_wp2_with fail
  refine wp_region_noPanic ?_
  refine wp_region_held_drew (S := (fun w' => ∀ j, w'.cell? ⟨w3.heap.size, j, none⟩ = #[.slice V3 s3.values.length c3, .slice H3 s3.heap.length d3][j]?)) (by kernel_rfl) (Blk.cell blks) (fun hHeld => ?_)
  refine wpAnyH_take (i := 0) (v := ?_) rfl (by kernel_rfl) (by kernel_rfl) (by kernel_rfl) (fun _ _ _ h => h) (Or.inl ⟨by rfl, fun w hSw => ?_⟩) hHeld ?_
  rotate_left
  · ((try dsimp only at hSw); go_split_ands; go_simp; (try with_reducible rfl))
  try simp only [Act.put, List.getElem_toArray, List.getElem_cons_zero, List.getElem_cons_succ, List.setIfInBounds_toArray, List.set_cons_zero, List.set_cons_succ]
  refine wpAnyH_take (i := 1) (v := ?_) rfl (by kernel_rfl) (by kernel_rfl) (by kernel_rfl) (fun _ _ _ h => h) (Or.inl ⟨by rfl, fun w hSw => ?_⟩) hHeld ?_
  rotate_left
  · ((try dsimp only at hSw); go_split_ands; go_simp; (try with_reducible rfl))
  try simp only [Act.put, List.getElem_toArray, List.getElem_cons_zero, List.getElem_cons_succ, List.setIfInBounds_toArray, List.set_cons_zero, List.set_cons_succ]
  refine wpAnyH_take (i := 2) (v := ?_) rfl (by kernel_rfl) (by kernel_rfl) (by kernel_rfl) (fun _ _ _ h => h) (Or.inl ⟨by rfl, fun w hSw => ?_⟩) hHeld ?_
  rotate_left
  · ((try dsimp only at hSw); go_split_ands; go_simp; (try with_reducible rfl))
  try simp only [Act.put, List.getElem_toArray, List.getElem_cons_zero, List.getElem_cons_succ, List.setIfInBounds_toArray, List.set_cons_zero, List.set_cons_succ]
  refine wpAnyH_ready (rs := [3]) (by kernel_rfl) (by simp) ?_
  refine AllReadyH.cons rfl (fun K hK => ?_) AllReadyH.nil
  try simp only [List.getElem_toArray, List.getElem_cons_zero, List.getElem_cons_succ]
  (go_simp; refine (c_l9Fuel g q5 _ (HR5.out.below bel) (by omega)).mono ?_; rintro e w6 ⟨f, hf, rfl, hR, hF⟩; have k6 := (k5.out.drew).fr hF (by omega); have kx6 := kx5.drew.fr hF (by omega); have HF6 := Lib.hid hF; clear hR hF)
  refine hK.out _ _ (kx6.cell) (fun hHeldN => ?_)
  clear hHeld hK K
  have hHeld := hHeldN
  clear hHeldN
  try simp only [Act.put, List.getElem_toArray, List.getElem_cons_zero, List.getElem_cons_succ, List.setIfInBounds_toArray, List.set_cons_zero, List.set_cons_succ]
  have q6c := k6.cell
  have q6f := k6.frozen
  have q6l := k6.lt
  refine wpAnyH_ready (rs := [4]) (by kernel_rfl) (by simp) ?_
  refine AllReadyH.cons rfl (fun K hK => ?_) AllReadyH.nil
  try simp only [List.getElem_toArray, List.getElem_cons_zero, List.getElem_cons_succ]
  go_simp
  refine hK.out _ _ (Blk.cell blks) (fun hHeldN => ?_)
  clear hHeld hK K
  have hHeld := hHeldN
  clear hHeldN
  try simp only [Act.put, List.getElem_toArray, List.getElem_cons_zero, List.getElem_cons_succ, List.setIfInBounds_toArray, List.set_cons_zero, List.set_cons_succ]
  refine wpAnyH_ready (rs := [5]) (by kernel_rfl) (by simp) ?_
  refine AllReadyH.cons rfl (fun K hK => ?_) AllReadyH.nil
  try simp only [List.getElem_toArray, List.getElem_cons_zero, List.getElem_cons_succ]
  go_simp
  refine hK.out _ _ (Blk.cell blks) (fun hHeldN => ?_)
  clear hHeld hK K
  have hHeld := hHeldN
  clear hHeldN
  try simp only [Act.put, List.getElem_toArray, List.getElem_cons_zero, List.getElem_cons_succ, List.setIfInBounds_toArray, List.set_cons_zero, List.set_cons_succ]
  refine wpAnyH_ready (rs := [6]) (by kernel_rfl) (by simp) ?_
  refine AllReadyH.cons rfl (fun K hK => ?_) AllReadyH.nil
  try simp only [List.getElem_toArray, List.getElem_cons_zero, List.getElem_cons_succ]
  go_simp
  refine hK.out _ _ (Blk.cell blks) (fun hHeldN => ?_)
  clear hHeld hK K
  have hHeld := hHeldN
  clear hHeldN
  try simp only [Act.put, List.getElem_toArray, List.getElem_cons_zero, List.getElem_cons_succ, List.setIfInBounds_toArray, List.set_cons_zero, List.set_cons_succ]
  refine wpAnyH_done (by kernel_rfl) ?_ _
  refine NoPanic.normal ?_
  have z56 : w.heap.size ≤ w5.heap.size := by omega
  have HB6 : Hid (Below w.heap.size w w6) := Lib.hid (HB5.out.drew.trans (HF6.out.below (by omega) z56))
  have T3 := Lib.hid ((T1.out.below (w' := w5.drew) (Below.refl _ _).drew).fr HF6.out hg2)
  have T4 := Lib.hid ((T2.out.below (w' := w5.drew) (Below.refl _ _).drew).fr HF6.out hg2)
  have HV6 := Lib.hid (HV5.out.keep (w' := w6) (fun b h1 h2 => (HF6.out.block b h2 (by omega))))
  have z6 : w5.heap.size ≤ w6.heap.size := HF6.out.size
  go_wp2_with fail
  have kz := ((k6.set_ 0 (.slice V3 s3.values.length c3)).set_ 1 (.slice H3 s3.heap.length d3)).cell
  refine bodyPost_ret (v := .tuple #[.agg #[.slice V3 s3.values.length c3, .slice H3 s3.heap.length d3], .slice A5 L5.len c5, .int .i64 f]) (by simp [results, Tryz.results14, go_sem, kz]) rfl ⟨_, s3, A5, c5, L5, f, rfl, ⟨_, _, rfl, ?_, ?_, DJ.out⟩, hl3, hl3b, ?_, hLS5, ⟨hcap, hne⟩, hf, ?_⟩
  · exact ((T3.out.setT k6 (by decide) 0 _).setT (k6.set_ _ _) (by decide) 1 _).lower (by omega)
  · exact ((T4.out.setT k6 (by decide) 0 _).setT (k6.set_ _ _) (by decide) 1 _).lower (by omega)
  · have h1 := HV6.out.keep (w' := (w6.setCell ⟨w.heap.size, 0, none⟩ (.slice V3 s3.values.length c3)).setCell ⟨w.heap.size, 1, none⟩ (.slice H3 s3.heap.length d3)) (fun b h1 h2 => (Below.heap_setCell _ _ _ b (by simp only; omega)).trans (Below.heap_setCell _ _ _ b (by simp only; omega)))
    exact h1.mono (by omega) (by simp only [World.size_setCell]; exact z6)
  · exact (HB6.out.setCell (by simp only; omega) _).setCell (by simp only; omega) _
--@
end Go.Proofs.YteogcababfenfaaGreat
