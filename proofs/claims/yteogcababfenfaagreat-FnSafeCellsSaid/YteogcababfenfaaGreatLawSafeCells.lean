/- 'laws.FnSafeCells' returns true for all bytes that can be read. -/
import Derived.Test.YteogcababfenfaaGreatMDrawZb
import Derived.Test.YteogcababfenfaaGreatRunT
import Derived.Test.YteogcababfenfaaGreatSafeK
import Derived.Test.YteogcababfenfaaGreatSlHas
import Derived.Test.YteogcababfenfaaGreatSlInts
import Derived.Deep.DeepCutAuto
set_option linter.unusedSimpArgs false
set_option linter.unusedVariables false
namespace Go.Proofs.YteogcababfenfaaGreat
open Go Go.RowKit Go.Proofs
attribute [local go_sem ↓] Go.wp_at_zero Go.wp_at_succ
--@ laws.slInts
theorem c_slIntsT {lo hi lo' hi' : Nat} (A A' : Option Addr) (c c' : Nat) (fs : List Int) (w : World) (h : IntsV w lo hi A fs) (h' : IntsV w lo' hi' A' fs) : Calls Tryz.prog 9 #[.slice A fs.length c, .slice A' fs.length c'] w fun e w' => e = .returned (.bool true) ∧ Below w.heap.size w w' := by
  have := c_slInts A A' c c' fs fs w h h'
  simpa using this
--@ spec.DrawSafeCells
set_option maxRecDepth 100000 in
set_option maxHeartbeats 1600000 in
theorem c_DrawSafe (A : Option Addr) (n c : Nat) (w : World) (h : BytesR w A n c) :
    Calls Tryz.prog 6 #[.slice A n c] w fun e w' => ∃ r s A' c' L, e = .returned (.tuple #[r, .slice A' (Cms.len L) c']) ∧ StateO w' w.heap.size r s ∧ CmsV w' w.heap.size w'.heap.size A' L ∧ L.len + L.cost ≤ 1000 ∧ Below w.heap.size w w' := by
  have HR0 : Hid (BytesR (w.alloc (.cells #[.slice none 0 0, .slice none 0 0] tSt)) A n c) := by
    obtain ⟨bs, h1, h2, h3⟩ := h
    exact ⟨bs, h1, (h2.below (bbox (Below.refl _ _) _)).mono (Nat.le_refl _) (by simp), h3⟩
  clear h
  go_enter Tryz.func6, Tryz.ntmps6
  have k0 : Blk (w.alloc (.cells #[.slice none 0 0, .slice none 0 0] tSt)) w.heap.size tSt #[.slice none 0 0, .slice none 0 0] := blks
  have hB0 : Below w.heap.size w (w.alloc (.cells #[.slice none 0 0, .slice none 0 0] tSt)) := bbox (Below.refl _ _) _
  have hs0 : w.heap.size + 1 ≤ (w.alloc (.cells #[.slice none 0 0, .slice none 0 0] tSt)).heap.size := by simp
  go_wp2_with fail
  generalize w.alloc (.cells #[.slice none 0 0, .slice none 0 0] tSt) = W0 at k0 hB0 hs0 HR0 ⊢
  refine (c_DrawRun A n c _ HR0.out).mono ?_
  rintro e w1 ⟨r, s, B, d, L, f, rfl, o, -, -, hV, hLS, -, -, hB1⟩
  obtain ⟨fv, av, rfl, o1, o2, dj⟩ := o
  obtain ⟨F, e1, rfl, -⟩ := o1.reads
  obtain ⟨G, e2, rfl, -⟩ := o2.reads
  have hz := hB1.size
  have hB := Lib.hid (bgo hB0 hB1)
  replace k0 := k0.next hB1
  have O1 := Lib.hid (o1.lower (base' := w.heap.size) (by omega))
  have O2 := Lib.hid (o2.lower (base' := w.heap.size) (by omega))
  have HD := Lib.hid dj
  have HV := Lib.hid (hV.mono (lo' := w.heap.size + 1) (hi' := w1.heap.size) (by omega) (Nat.le_refl _))
  have hLS2 := Lib.hid hLS
  clear o1 o2 dj hV hB1 hB0 HR0 hLS
  (replace qk0 := k0.cell; replace rk0 := k0.frozen; replace lk0 := k0.lt)
  go_wp2_with fail
  refine bodyPost_ret (v := .tuple #[.agg #[.slice F s.values.length e1, .slice G s.heap.length e2], .slice B L.len d]) (by simp [results, Tryz.results6, go_sem, qk0, lk0]) rfl ⟨_, s, B, d, L, rfl, ⟨_, _, rfl, ?_, ?_, HD.out⟩, ?_, hLS2.out, ?_⟩
  · exact ((O1.out.setT k0 (by decide) 0 _).setT (k0.set_ 0 _) (by decide) 1 _).below (bbox (Below.refl _ _) _)
  · exact ((O2.out.setT k0 (by decide) 0 _).setT (k0.set_ 0 _) (by decide) 1 _).below (bbox (Below.refl _ _) _)
  · refine ((HV.out.keep (w' := (w1.setCell ⟨w.heap.size, 0, none⟩ (.slice F s.values.length e1)).setCell ⟨w.heap.size, 1, none⟩ (.slice G s.heap.length e2)) fun b h1 h2 => ?_).below (bbox (Below.refl _ _) _)).mono (by omega) (by simp)
    exact (Below.heap_setCell _ _ _ b (by simp only; omega)).trans (Below.heap_setCell _ _ _ b (by simp only; omega))
  · exact bbox ((hB.out.setCell (p := ⟨w.heap.size, 0, none⟩) (by simp only; omega) _).setCell (p := ⟨w.heap.size, 1, none⟩) (by simp only; omega) _) _
--@ impl.SafeCells
theorem sc_impl {w W : World} {x c d n : Nat} {V H B : Option Addr} {s : Ste} {L : Cms} (hS : SB W x V c H d s) (hP : PB w W B L) :
    Calls Tryz.prog 7 #[.agg #[.slice V s.values.length c, .slice H s.heap.length d], .slice B L.len n] W fun e w' => ∃ G g, e = .returned (.tuple #[.slice G (safeL s L).length g, .bool (safeB s L)]) ∧ Hid (IntsV w' W.heap.size w'.heap.size G (safeL s L)) ∧ Below W.heap.size W w' := by
  obtain ⟨lo, hi, h1⟩ := hS.st
  refine (k_impl_SafeCells _ s B n L W h1 hP.prog).mono ?_
  rintro e w' ⟨r, rfl, o, hB⟩
  obtain ⟨G, g, rfl, hG⟩ := o.reads
  exact ⟨G, g, rfl, Lib.hid hG, hB⟩
--@ spec.SafeCells
theorem sc_spec {w W : World} {x c d n : Nat} {V H B : Option Addr} {s : Ste} {L : Cms} (hS : SB W x V c H d s) (hP : PB w W B L) :
    Calls Tryz.prog 8 #[.agg #[.slice V s.values.length c, .slice H s.heap.length d], .slice B L.len n] W fun e w' => ∃ G g, e = .returned (.tuple #[.slice G (safeL s L).length g, .bool (safeB s L)]) ∧ Hid (IntsV w' W.heap.size w'.heap.size G (safeL s L)) ∧ Below W.heap.size W w' := by
  obtain ⟨lo, hi, h1⟩ := hS.st
  refine (k_spec_SafeCells _ s B n L W h1 hP.prog).mono ?_
  rintro e w' ⟨r, rfl, o, hB⟩
  obtain ⟨G, g, rfl, hG⟩ := o.reads
  exact ⟨G, g, rfl, Lib.hid hG, hB⟩
--@ impl.UsedCells
theorem uc_impl {W : World} {x c d : Nat} {V H : Option Addr} {s : Ste} (hs : s.valid = true) (hS : SB W x V c H d s) :
    Calls Tryz.prog 10 #[.agg #[.slice V s.values.length c, .slice H s.heap.length d]] W fun e w' => ∃ G g, e = .returned (.slice G (usedL s.heap 8).length g) ∧ Hid (IntsV w' W.heap.size w'.heap.size G (usedL s.heap 8)) ∧ Below W.heap.size W w' := by
  obtain ⟨lo, hi, h1⟩ := hS.st
  refine (c_impl_UsedCells _ s W h1).mono ?_
  rintro e w' ⟨r, rfl, o, hB⟩
  rw [show usedF s = usedL s.heap 8 from by unfold usedF; rw [if_pos hs]] at o
  obtain ⟨G, g, rfl, hG⟩ := o.reads
  exact ⟨G, g, rfl, Lib.hid hG, hB⟩
--@ impl.FreeCell
theorem fc_impl {W : World} {x c d n : Nat} {V H : Option Addr} {s t : Ste} (ht : t = ⟨s.values, s.heap.set n (-1)⟩) (hs : s.valid = true) (hn : n < 8) (ha : allocB s.heap ((n : Int) + 1) = true) (hS : SB W x V c H d s) :
    Calls Tryz.prog 11 #[.agg #[.slice V s.values.length c, .slice H s.heap.length d], .int .i64 ((n : Int) + 1)] W fun e w' => ∃ V2 e2 H2 g2, e = .returned (.tuple #[.agg #[.slice V2 t.values.length e2, .slice H2 t.heap.length g2], .bool true]) ∧
      Hid (StateV w' W.heap.size w'.heap.size (.agg #[.slice V2 t.values.length e2, .slice H2 t.heap.length g2]) t) ∧ Below W.heap.size W w' := by
  subst ht
  obtain ⟨lo, hi, h1⟩ := hS.st
  refine (c_impl_FreeOk _ s n W h1 hs hn ha).mono ?_
  rintro e w' ⟨r, rfl, o, hB⟩
  obtain ⟨V2, e2, H2, g2, rfl, hV⟩ := o.open_
  exact ⟨V2, e2, H2, g2, rfl, hV, hB⟩
--@ laws.FnSafeCells
theorem safe_facts {s : Ste} {L : Cms} (h : safeB s L = true) : s.valid = true ∧ codeF s L 200 = 0 ∧ (safeL s L).length ≤ 8 ∧ ∀ k (hk : k < (safeL s L).length), ∃ n : Nat, (safeL s L)[k] = (n : Int) + 1 ∧ n < 8 ∧ allocB s.heap ((n : Int) + 1) = true ∧ codeF ⟨s.values, s.heap.set n (-1)⟩ L 200 ≠ 0 ∧ (n : Int) + 1 ∈ usedL s.heap 8 := by
  have h0 : codeF s L 200 = 0 := by simpa [safeB] using h
  have e : safeL s L = (usedL s.heap 8).filter (needB s L) := by unfold safeL; rw [if_pos h]
  refine ⟨code0 h0, h0, ?_, fun k hk => ?_⟩
  · rw [e]
    exact Nat.le_trans (List.length_filter_le _ _) (usedL_le _ _)
  · have hm : (safeL s L)[k] ∈ (usedL s.heap 8).filter (needB s L) := by rw [← e]; exact List.getElem_mem hk
    obtain ⟨h1, h2⟩ := List.mem_filter.1 hm
    obtain ⟨h3, n, h4, h5⟩ := usedL_alloc h1
    rw [h4] at h1 h2 h3
    refine ⟨n, h4, h5, h3, ?_, h1⟩
    have h6 : codeF (lessF s ((n : Int) + 1)) L 200 ≠ 0 := by simpa [needB] using h2
    unfold lessF at h6
    rwa [show ((n : Int) + 1 - 1).toNat = n by omega] at h6
set_option maxRecDepth 100000 in
set_option maxHeartbeats 6400000 in
theorem c_FnSafeCells (v : Value) (A : Option Addr × Nat × Nat) (w : World) (h : v = .slice A.1 A.2.1 A.2.2 ∧ BytesR w A.1 A.2.1 A.2.2) : Calls Tryz.prog 3 #[v] w fun e w' => e = .returned (.bool true) ∧ Below w.heap.size w w' := by
  obtain ⟨A, n, c⟩ := A
  obtain ⟨rfl, hR⟩ := h
  simp only at hR ⊢
  have HR := Lib.hid hR
  clear hR
  by_cases hn : 1048576 < n
  · have hni : (1048576 : Int) < (n : Int) := by omega
    clear hn
    go_enter Tryz.func3, Tryz.ntmps3
    go_wp2_with fail
    go_ret
    exact ⟨rfl, bel⟩
  have hni : ¬ (1048576 : Int) < (n : Int) := by omega
  clear hn
  go_enter Tryz.func3, Tryz.ntmps3
  go_wp2_with fail
  refine (c_DrawSafe A n c _ HR.out).mono ?_
  rintro e w1 ⟨r, s, B, d, L, rfl, o, hV, hLS, hB1⟩
  obtain ⟨V1, e1, H1, g1, rfl, HS1⟩ := o.open_
  have hbx : Below w1.heap.size w1 (w1.alloc (.cells #[.slice V1 s.values.length e1, .slice H1 s.heap.length g1] tSt)) := bbox (Below.refl _ _) _
  have hS := Lib.hid (SB.new HS1.out)
  have hP := Lib.hid ((PB.mk (w := w) hB1 ⟨hV, by omega⟩).next hbx)
  have hz := hB1.size
  clear o hB1 hV HR HS1 hbx hLS
  obtain ⟨OK, hOK⟩ : ∃ x, x = safeB s L := ⟨_, rfl⟩
  obtain ⟨D, hD⟩ : ∃ x, x = safeL s L := ⟨_, rfl⟩
  have c1 := Lib.hid (fun W n hS hP => sc_impl (w := w) (W := W) (x := w1.heap.size) (c := e1) (d := g1) (n := n) (V := V1) (H := H1) (B := B) (s := s) (L := L) hS hP)
  have c2 := Lib.hid (fun W n hS hP => sc_spec (w := w) (W := W) (x := w1.heap.size) (c := e1) (d := g1) (n := n) (V := V1) (H := H1) (B := B) (s := s) (L := L) hS hP)
  have hF : Hid (OK = true → s.valid = true ∧ codeF s L 200 = 0 ∧ D.length ≤ 8 ∧ ∀ k (hk : k < D.length), ∃ n : Nat, D[k] = (n : Int) + 1 ∧ n < 8 ∧ allocB s.heap ((n : Int) + 1) = true ∧ codeF ⟨s.values, s.heap.set n (-1)⟩ L 200 ≠ 0 ∧ (n : Int) + 1 ∈ usedL s.heap 8) := Lib.hid (by rw [hOK, hD]; exact safe_facts)
  rw [← hOK, ← hD] at c1 c2
  clear hOK hD
  have q1 := hS.out.blk.cell
  have r1 := hS.out.blk.frozen
  have l1 := hS.out.blk.lt
  go_wp2_with fail
  refine (c1.out _ _ hS.out hP.out).mono ?_
  rintro e w2 ⟨G, g, rfl, hG, hB2⟩
  replace hS := Lib.hid (hS.out.next hB2)
  replace hP := Lib.hid (hP.out.next hB2)
  clear hB2 q1 r1 l1
  have q1 := hS.out.blk.cell
  have r1 := hS.out.blk.frozen
  have l1 := hS.out.blk.lt
  go_wp2_with fail
  refine (c2.out _ _ hS.out hP.out).mono ?_
  rintro e w3 ⟨G', g', rfl, hG', hB3⟩
  replace hS := Lib.hid (hS.out.next hB3)
  replace hP := Lib.hid (hP.out.next hB3)
  replace hG := Lib.hid (hG.out.below hB3)
  clear hB3 q1 r1 l1 c1 c2
  have q1 := hS.out.blk.cell
  have r1 := hS.out.blk.frozen
  have l1 := hS.out.blk.lt
  cases OK
  · clear hF
    go_wp2_with fail
    refine (c_slIntsT G G' g g' D _ hG.out hG'.out).mono ?_
    rintro e w4 ⟨rfl, hB4⟩
    replace hP := Lib.hid (hP.out.next hB4)
    replace hG := Lib.hid (hG.out.below hB4)
    replace hG' := Lib.hid (hG'.out.below hB4)
    clear hB4
    go_wp2_with fail
    refine (c_slIntsT G G' g g' D _ hG.out hG'.out).mono ?_
    rintro e w5 ⟨rfl, hB5⟩
    go_wp2_with fail
    go_ret
    exact ⟨rfl, bgo hP.out.bel hB5⟩
  obtain ⟨hsv, h200, hD8, hDk⟩ := hF.out rfl
  have HSV := Lib.hid hsv
  have H200 := Lib.hid h200
  have HDK := Lib.hid hDk
  clear hF hsv h200 hDk
  go_wp2_with fail
  refine (c_slIntsT G G' g g' D _ hG.out hG'.out).mono ?_
  rintro e w4 ⟨rfl, hB4⟩
  replace hS := Lib.hid (hS.out.next hB4)
  replace hP := Lib.hid (hP.out.next hB4)
  replace hG := Lib.hid (hG.out.below hB4)
  clear hB4 q1 r1 l1 hG'
  have q1 := hS.out.blk.cell
  have r1 := hS.out.blk.frozen
  have l1 := hS.out.blk.lt
  go_wp2_with fail
  refine (uc_impl HSV.out hS.out).mono ?_
  rintro e w5 ⟨U, u, rfl, hU, hB5⟩
  replace hS := Lib.hid (hS.out.next hB5)
  replace hP := Lib.hid (hP.out.next hB5)
  replace hG := Lib.hid (hG.out.below hB5)
  clear hB5 q1 r1 l1
  obtain ⟨E, hE⟩ : ∃ x, x = usedL s.heap 8 := ⟨_, rfl⟩
  rw [← hE] at hU HDK ⊢
  clear hE
  have lw5 : w1.heap.size < w5.heap.size := hS.out.blk.lt
  go_wp2_with fail
  go_loopg [10] 10 (fun gh i wr => ∃ k : Nat, k ≤ D.length ∧ 10 ≤ gh + k ∧ i = .int .i64 k ∧ Hid (Below w5.heap.size w5 wr))
  case atStart => exact ⟨0, Nat.zero_le _, by omega, rfl, Lib.hid (Below.refl _ _)⟩
  case round =>
    obtain ⟨k, hk, hgk, rfl, HB⟩ := hrel
    have hSr := Lib.hid (hS.out.next HB.out)
    have hPr := Lib.hid (hP.out.next HB.out)
    have hGr := Lib.hid (hG.out.below HB.out)
    have hUr := Lib.hid (hU.out.below HB.out)
    have hzr := HB.out.size
    by_cases hlt : k < D.length
    · obtain ⟨b, off, rfl, g0⟩ := hGr.out.at hlt
      obtain ⟨m, hm1, hm8, hma, hmc, hmu⟩ := HDK.out k hlt
      rw [hm1] at g0
      have hki : (k : Int) < (D.length : Int) := by omega
      have hbl := block_lt_of_cell g0
      simp only at hbl
      obtain ⟨t, ht⟩ : ∃ t : Ste, t = ⟨s.values, s.heap.set m (-1)⟩ := ⟨_, rfl⟩
      rw [← ht] at hmc
      have HMA := Lib.hid hma
      have HMC := Lib.hid hmc
      have HTT := Lib.hid ht
      have hmem : decide ((m : Int) + 1 ∈ E) = true := by rw [decide_eq_true_iff]; exact hmu
      have HME := Lib.hid hmem
      clear hma hmc hmu hm1 hmem ht
      have k5 := hSr.out.blk
      have l5 := k5.lt
      have f1 := Lib.hid (fun (W : World) hS => fc_impl (W := W) (x := w1.heap.size) (c := e1) (d := g1) (n := m) (V := V1) (H := H1) (s := s) HTT.out HSV.out hm8 HMA.out hS)
      go_upto_region 12 with fail
      go_cut [11, 12] (fun s11 s12 wc => ∃ (x : Nat) (V5 : Option Addr) (e5 : Nat) (H5 : Option Addr) (g5 : Nat), s11 = .pointer (some ⟨x, 0, none⟩) ∧ s12 = .bool true ∧ Hid (SB wc x V5 e5 H5 g5 t) ∧ Hid (Below wr.heap.size wr wc))
      case first =>
        go_wp2_with fail
        refine wp_region_noPanic ?_
        refine wp_region_held_drew (S := (fun w' => (∀ i, w'.cell? ⟨w1.heap.size, i, none⟩ = #[.slice V1 s.values.length e1, .slice H1 s.heap.length g1][i]?) ∧ w'.cell? ⟨b, off + k, none⟩ = some (.int .i64 ((m : Int) + 1)))) (by kernel_rfl) (⟨Blk.cell blks, g0⟩) (fun hHeld => ?_)
        refine wpAnyH_take (i := 0) (v := ?_) rfl (by kernel_rfl) (by kernel_rfl) (by kernel_rfl) (fun _ _ _ h => h) (Or.inl ⟨by rfl, fun w hSw => ?_⟩) hHeld ?_
        rotate_left
        · ((try dsimp only at hSw); go_split_ands; go_simp; (try with_reducible rfl))
        try simp only [Act.put, List.getElem_toArray, List.getElem_cons_zero, List.getElem_cons_succ, List.setIfInBounds_toArray, List.set_cons_zero, List.set_cons_succ]
        refine wpAnyH_take (i := 1) (v := ?_) rfl (by kernel_rfl) (by kernel_rfl) (by kernel_rfl) (fun _ _ _ h => h) (Or.inl ⟨by rfl, fun w hSw => ?_⟩) hHeld ?_
        rotate_left
        · ((try dsimp only at hSw); go_split_ands; go_simp; (try with_reducible rfl))
        try simp only [Act.put, List.getElem_toArray, List.getElem_cons_zero, List.getElem_cons_succ, List.setIfInBounds_toArray, List.set_cons_zero, List.set_cons_succ]
        refine wpAnyH_take (i := 2) (v := ?_) rfl (by kernel_rfl) (by kernel_rfl) (by kernel_rfl) (fun _ _ _ h => h) (Or.inl ⟨by rfl, fun w hSw => ?_⟩) hHeld ?_
        rotate_left
        · ((try dsimp only at hSw); go_split_ands; go_simp; (try with_reducible rfl))
        try simp only [Act.put, List.getElem_toArray, List.getElem_cons_zero, List.getElem_cons_succ, List.setIfInBounds_toArray, List.set_cons_zero, List.set_cons_succ]
        refine wpAnyH_take (i := 3) (v := ?_) rfl (by kernel_rfl) (by kernel_rfl) (by kernel_rfl) (fun _ _ _ h => h) (Or.inl ⟨by rfl, fun w hSw => ?_⟩) hHeld ?_
        rotate_left
        · ((try dsimp only at hSw); go_split_ands; go_simp; (try with_reducible rfl))
        try simp only [Act.put, List.getElem_toArray, List.getElem_cons_zero, List.getElem_cons_succ, List.setIfInBounds_toArray, List.set_cons_zero, List.set_cons_succ]
        refine wpAnyH_take (i := 4) (v := ?_) rfl (by kernel_rfl) (by kernel_rfl) (by kernel_rfl) (fun _ _ _ h => h) (Or.inl ⟨by rfl, fun w hSw => ?_⟩) hHeld ?_
        rotate_left
        · ((try dsimp only at hSw); go_split_ands; go_simp; (try with_reducible rfl))
        try simp only [Act.put, List.getElem_toArray, List.getElem_cons_zero, List.getElem_cons_succ, List.setIfInBounds_toArray, List.set_cons_zero, List.set_cons_succ]
        refine wpAnyH_ready (rs := [5, 9]) (by kernel_rfl) (by simp) ?_
        refine AllReadyH.cons rfl (fun K hK => ?_) (AllReadyH.cons rfl (fun K hK => ?_) (AllReadyH.nil))
        · skip
          try simp only [List.getElem_toArray, List.getElem_cons_zero, List.getElem_cons_succ]
          go_simp
          refine (f1.out _ (hSr.out.next bel)).mono ?_; rintro e w6 ⟨V6, e6, H6, g6, rfl, hV6, hB6⟩; have hb6 := bgo (w := wr) bel hB6; have k6 := (hSr.out.next hb6).blk; have hV6' := Lib.hid hV6.out; have g6' := (hb6.cell (p := ⟨b, off + k, none⟩) hbl).trans g0
          refine hK.out _ _ ⟨k6.cell, g6'⟩ (fun hHeldN => ?_)
          clear hHeld hK K
          have hHeld := hHeldN
          clear hHeldN
          have l6 := k6.lt
          have hb6l := block_lt_of_cell g6'
          simp only at hb6l
          refine wpAnyH_take (i := 6) (v := ?_) rfl (by kernel_rfl) (by kernel_rfl) (by kernel_rfl) (fun _ _ _ h => h) (Or.inl ⟨by rfl, fun w hSw => ?_⟩) hHeld ?_
          rotate_left
          · ((try dsimp only at hSw); go_split_ands; go_simp; (try with_reducible rfl))
          try simp only [Act.put, List.getElem_toArray, List.getElem_cons_zero, List.getElem_cons_succ, List.setIfInBounds_toArray, List.set_cons_zero, List.set_cons_succ]
          refine wpAnyH_take (i := 7) (v := ?_) rfl (by kernel_rfl) (by kernel_rfl) (by kernel_rfl) (fun _ _ _ h => h) (Or.inl ⟨by rfl, fun w hSw => ?_⟩) hHeld ?_
          rotate_left
          · ((try dsimp only at hSw); go_split_ands; go_simp; (try with_reducible rfl))
          try simp only [Act.put, List.getElem_toArray, List.getElem_cons_zero, List.getElem_cons_succ, List.setIfInBounds_toArray, List.set_cons_zero, List.set_cons_succ]
          refine wpAnyH_take (i := 8) (v := ?_) rfl (by kernel_rfl) (by kernel_rfl) (by kernel_rfl) (fun _ _ _ h => h) (Or.inl ⟨by rfl, fun w hSw => ?_⟩) hHeld ?_
          rotate_left
          · ((try dsimp only at hSw); go_split_ands; go_simp; (try with_reducible rfl))
          try simp only [Act.put, List.getElem_toArray, List.getElem_cons_zero, List.getElem_cons_succ, List.setIfInBounds_toArray, List.set_cons_zero, List.set_cons_succ]
          refine wpAnyH_ready (rs := [9]) (by kernel_rfl) (by simp) ?_
          refine AllReadyH.cons rfl (fun K hK => ?_) AllReadyH.nil
          try simp only [List.getElem_toArray, List.getElem_cons_zero, List.getElem_cons_succ]
          go_simp
          refine hK.out _ _ (⟨Blk.cell blks, ((show Below w6.heap.size w6 _ from bel).cell (p := ⟨b, off + k, none⟩) hb6l).trans g6'⟩) (fun hHeldN => ?_)
          clear hHeld hK K
          have hHeld := hHeldN
          clear hHeldN
          try simp only [Act.put, List.getElem_toArray, List.getElem_cons_zero, List.getElem_cons_succ, List.setIfInBounds_toArray, List.set_cons_zero, List.set_cons_succ]
          refine wpAnyH_ready (rs := [10]) (by kernel_rfl) (by simp) ?_
          refine AllReadyH.cons rfl (fun K hK => ?_) AllReadyH.nil
          try simp only [List.getElem_toArray, List.getElem_cons_zero, List.getElem_cons_succ]
          go_simp
          refine hK.out _ _ (⟨Blk.cell blks, ((show Below w6.heap.size w6 _ from bel).cell (p := ⟨b, off + k, none⟩) hb6l).trans g6'⟩) (fun hHeldN => ?_)
          clear hHeld hK K
          have hHeld := hHeldN
          clear hHeldN
          try simp only [Act.put, List.getElem_toArray, List.getElem_cons_zero, List.getElem_cons_succ, List.setIfInBounds_toArray, List.set_cons_zero, List.set_cons_succ]
          refine wpAnyH_ready (rs := [11]) (by kernel_rfl) (by simp) ?_
          refine AllReadyH.cons rfl (fun K hK => ?_) AllReadyH.nil
          try simp only [List.getElem_toArray, List.getElem_cons_zero, List.getElem_cons_succ]
          go_simp
          refine hK.out _ _ (⟨Blk.cell blks, ((show Below w6.heap.size w6 _ from bel).cell (p := ⟨b, off + k, none⟩) hb6l).trans g6'⟩) (fun hHeldN => ?_)
          clear hHeld hK K
          have hHeld := hHeldN
          clear hHeldN
          try simp only [Act.put, List.getElem_toArray, List.getElem_cons_zero, List.getElem_cons_succ, List.setIfInBounds_toArray, List.set_cons_zero, List.set_cons_succ]
          refine wpAnyH_done (by kernel_rfl) ?_ _
          refine NoPanic.normal ?_
          go_wp2_with fail
          go_meet
          case rel => exact ⟨w6.heap.size, V6, e6, H6, g6, rfl, rfl, Lib.hid (SB.new hV6'.out), Lib.hid (bbox hb6 _)⟩
        · skip
          try simp only [List.getElem_toArray, List.getElem_cons_zero, List.getElem_cons_succ]
          go_simp
          refine hK.out _ _ ⟨Blk.cell blks, ((show Below wr.heap.size wr _ from bel).cell (p := ⟨b, off + k, none⟩) hbl).trans g0⟩ (fun hHeldN => ?_)
          clear hHeld hK K
          have hHeld := hHeldN
          clear hHeldN
          refine wpAnyH_ready (rs := [5]) (by kernel_rfl) (by simp) ?_
          refine AllReadyH.cons rfl (fun K hK => ?_) AllReadyH.nil
          try simp only [List.getElem_toArray, List.getElem_cons_zero, List.getElem_cons_succ]
          (go_simp; refine (f1.out _ (hSr.out.next bel)).mono ?_; rintro e w6 ⟨V6, e6, H6, g6, rfl, hV6, hB6⟩; have hb6 := bgo (w := wr) bel hB6; have k6 := (hSr.out.next hb6).blk; have kb6 := Blk.next (g := wr.heap.size) (t := tSt) (cs := #[.slice none 0 0, .slice none 0 0]) (Blk.drew (Blk.newE rfl)) hB6; have hV6' := Lib.hid hV6.out; have g6' := (hb6.cell (p := ⟨b, off + k, none⟩) hbl).trans g0)
          refine hK.out _ _ (⟨k6.cell, g6'⟩) (fun hHeldN => ?_)
          clear hHeld hK K
          have hHeld := hHeldN
          clear hHeldN
          try simp only [Act.put, List.getElem_toArray, List.getElem_cons_zero, List.getElem_cons_succ, List.setIfInBounds_toArray, List.set_cons_zero, List.set_cons_succ]
          have l6 := k6.lt
          have qb := kb6.cell
          have rb := kb6.frozen
          have lb := kb6.lt
          refine wpAnyH_take (i := 6) (v := ?_) rfl (by kernel_rfl) (by kernel_rfl) (by kernel_rfl) (fun _ _ _ h => h) (Or.inl ⟨by rfl, fun w hSw => ?_⟩) hHeld ?_
          rotate_left
          · ((try dsimp only at hSw); go_split_ands; go_simp; (try with_reducible rfl))
          try simp only [Act.put, List.getElem_toArray, List.getElem_cons_zero, List.getElem_cons_succ, List.setIfInBounds_toArray, List.set_cons_zero, List.set_cons_succ]
          refine wpAnyH_take (i := 7) (v := ?_) rfl (by kernel_rfl) (by kernel_rfl) (by kernel_rfl) (fun _ _ _ h => h) (Or.inl ⟨by rfl, fun w hSw => ?_⟩) hHeld ?_
          rotate_left
          · ((try dsimp only at hSw); go_split_ands; go_simp; (try with_reducible rfl))
          try simp only [Act.put, List.getElem_toArray, List.getElem_cons_zero, List.getElem_cons_succ, List.setIfInBounds_toArray, List.set_cons_zero, List.set_cons_succ]
          refine wpAnyH_take (i := 8) (v := ?_) rfl (by kernel_rfl) (by kernel_rfl) (by kernel_rfl) (fun _ _ _ h => h) (Or.inl ⟨by rfl, fun w hSw => ?_⟩) hHeld ?_
          rotate_left
          · ((try dsimp only at hSw); go_split_ands; go_simp; (try with_reducible rfl))
          try simp only [Act.put, List.getElem_toArray, List.getElem_cons_zero, List.getElem_cons_succ, List.setIfInBounds_toArray, List.set_cons_zero, List.set_cons_succ]
          refine wpAnyH_ready (rs := [10]) (by kernel_rfl) (by simp) ?_
          refine AllReadyH.cons rfl (fun K hK => ?_) AllReadyH.nil
          try simp only [List.getElem_toArray, List.getElem_cons_zero, List.getElem_cons_succ]
          go_simp
          refine hK.out _ _ (⟨Blk.cell blks, ((show Below wr.heap.size w6 _ from bel).cell (p := ⟨b, off + k, none⟩) hbl).trans g6'⟩) (fun hHeldN => ?_)
          clear hHeld hK K
          have hHeld := hHeldN
          clear hHeldN
          try simp only [Act.put, List.getElem_toArray, List.getElem_cons_zero, List.getElem_cons_succ, List.setIfInBounds_toArray, List.set_cons_zero, List.set_cons_succ]
          refine wpAnyH_ready (rs := [11]) (by kernel_rfl) (by simp) ?_
          refine AllReadyH.cons rfl (fun K hK => ?_) AllReadyH.nil
          try simp only [List.getElem_toArray, List.getElem_cons_zero, List.getElem_cons_succ]
          go_simp
          refine hK.out _ _ (⟨Blk.cell blks, ((show Below wr.heap.size w6 _ from bel).cell (p := ⟨b, off + k, none⟩) hbl).trans g6'⟩) (fun hHeldN => ?_)
          clear hHeld hK K
          have hHeld := hHeldN
          clear hHeldN
          try simp only [Act.put, List.getElem_toArray, List.getElem_cons_zero, List.getElem_cons_succ, List.setIfInBounds_toArray, List.set_cons_zero, List.set_cons_succ]
          refine wpAnyH_done (by kernel_rfl) ?_ _
          refine NoPanic.normal ?_
          go_wp2_with fail
          go_meet
          case rel => exact ⟨wr.heap.size, V6, e6, H6, g6, rfl, rfl, Lib.hid (SB.ofBox hV6'.out kb6 (by first | simp | omega)), Lib.hid ((hb6.setCell (Nat.le_refl _) _).setCell (Nat.le_refl _) _)⟩
      case rest =>
        obtain ⟨x, V5, e5, H5, g5, rfl, rfl, hS5, hB5⟩ := hcut
        have hP5 := Lib.hid (hPr.out.next hB5.out)
        have hU5 := Lib.hid (hUr.out.below hB5.out)
        have g05 := (hB5.out.cell (p := ⟨b, off + k, none⟩) hbl).trans g0
        have HB5 := Lib.hid (bgo HB.out hB5.out)
        obtain ⟨K, hK⟩ : ∃ K, K = codeF t L 200 := ⟨_, rfl⟩
        have c1 := Lib.hid (fun W n hS hP => r_impl (w := w) (W := W) (x := x) (c := e5) (d := g5) (n := n) (V := V5) (H := H5) (B := B) (s := t) (L := L) 200 hS hP)
        rw [← hK] at c1 HMC
        have kf : (K == 0) = false := by have := HMC.out; simpa using this
        clear hK HMC
        have q5 := hS5.out.blk.cell
        have r5 := hS5.out.blk.frozen
        have m5 := hS5.out.blk.lt
        have hblc := block_lt_of_cell g05
        simp only at hblc
        go_wp2_with fail
        refine (c1.out _ _ hS5.out hP5.out).mono ?_
        rintro e w7 ⟨V7, e7, H7, g7, rfl, hV7, hB7⟩
        have g07 := (hB7.cell (p := ⟨b, off + k, none⟩) hblc).trans g05
        have hU7 := Lib.hid (hU5.out.below hB7)
        have HB7 := Lib.hid (bgo HB5.out hB7)
        have hbl7 := block_lt_of_cell g07
        simp only at hbl7
        clear c1 q5 r5 m5 hV7 hB7 hP5 hU5
        go_wp2_with fail
        refine (c_slHas U u E _ _ (hU7.out.below bel)).mono ?_
        rintro e w8 ⟨rfl, hB8⟩
        rw [HME.out]
        have HB8 := Lib.hid (bgo (bbox HB7.out _) hB8)
        clear hB8
        go_wp2_with fail
        go_roundg (gk - 1)
        case rel => exact ⟨k + 1, by omega, by omega, by go_num, HB8⟩
        case measure => omega
    · obtain rfl : k = D.length := by omega
      have q5 := hSr.out.blk.cell
      have r5 := hSr.out.blk.frozen
      have m5 := hSr.out.blk.lt
      have c1 := Lib.hid (fun W n hS hP => r_impl (w := w) (W := W) (x := w1.heap.size) (c := e1) (d := g1) (n := n) (V := V1) (H := H1) (B := B) (s := s) (L := L) 200 hS hP)
      rw [H200.out] at c1
      go_wp2_with fail
      refine (c1.out _ _ hSr.out hPr.out).mono ?_
      rintro e w7 ⟨V7, e7, H7, g7, rfl, hV7, hB7⟩
      go_wp2_with fail
      go_ret
      exact ⟨rfl, bbox (bgo hPr.out.bel hB7) _⟩
--@
end Go.Proofs.YteogcababfenfaaGreat
