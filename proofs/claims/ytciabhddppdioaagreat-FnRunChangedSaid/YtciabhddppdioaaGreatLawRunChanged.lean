/- 'laws.FnRunChanged' returns true for all bytes that can be read. -/
import Derived.Test.YtciabhddppdioaaGreatMDrawZb
import Derived.Test.YtciabhddppdioaaGreatRunT
import Derived.Test.YtciabhddppdioaaGreatVisit
import Derived.Test.YtciabhddppdioaaGreatSlHas
import Derived.Deep.DeepCutAuto
set_option linter.unusedSimpArgs false
set_option linter.unusedVariables false
namespace Go.Proofs.YtciabhddppdioaaGreat
open Go Go.RowKit Go.Proofs
attribute [local go_sem ↓] Go.wp_at_zero Go.wp_at_succ
--@ laws.FnRunChanged
set_option maxRecDepth 100000 in
set_option maxHeartbeats 6400000 in
theorem c_FnRunChanged (v : Value) (A : Option Addr × Nat × Nat) (w : World) (h : v = .slice A.1 A.2.1 A.2.2 ∧ BytesR w A.1 A.2.1 A.2.2) : Calls Tryz.prog 3 #[v] w fun e w' => e = .returned (.bool true) ∧ Below w.heap.size w w' := by
  obtain ⟨A, n, c⟩ := A
  obtain ⟨rfl, hR⟩ := h
  simp only at hR ⊢
  have HR := Lib.hid hR
  clear hR
  by_cases hn : 1048576 < n
  · have hni : (1048576 : Int) < (n : Int) := by omega
    clear hn
    go_enter Tryz.func3, Tryz.ntmps3
    go_wp2_with fail
    go_ret
    exact ⟨rfl, bel⟩
  have hni : ¬ (1048576 : Int) < (n : Int) := by omega
  clear hn
  go_enter Tryz.func3, Tryz.ntmps3
  go_wp2_with fail
  refine (c_DrawRun A n c _ HR.out).mono ?_
  rintro e w1 ⟨r, s, B, d, L, f, rfl, o, -, -, hV, hLS, ⟨hcap, hL1⟩, hf, hB1⟩
  obtain ⟨V1, e1, H1, g1, rfl, HS1⟩ := o.open_
  have hbx : Below w1.heap.size w1 (w1.alloc (.cells #[.slice V1 s.values.length e1, .slice H1 s.heap.length g1] tSt)) := bbox (Below.refl _ _) _
  have hS := Lib.hid (SB.new HS1.out)
  have hP := Lib.hid ((PB.mk (w := w) hB1 ⟨hV, by omega⟩).next hbx)
  have hz := hB1.size
  obtain ⟨b, off, rfl, -⟩ := hP.out.open_ hL1
  clear o hB1 hV HR HS1 hbx
  obtain ⟨hf1, hf2⟩ := hf
  obtain ⟨K, hK⟩ : ∃ K, K = codeF s L f := ⟨_, rfl⟩
  obtain ⟨X, hX⟩ : ∃ X, X = afterF s L f := ⟨_, rfl⟩
  have c2 := Lib.hid (fun W n hS hP => r_impl (w := w) (W := W) (x := w1.heap.size) (c := e1) (d := g1) (n := n) (V := V1) (H := H1) (B := some ⟨b, off, none⟩) (s := s) (L := L) f hS hP)
  have c3 := Lib.hid (fun W n hS hP => r_spec (w := w) (W := W) (x := w1.heap.size) (c := e1) (d := g1) (n := n) (V := V1) (H := H1) (B := some ⟨b, off, none⟩) (s := s) (L := L) f hS hP)
  rw [← hK, ← hX] at c2 c3
  have hLen : Hid (L.len ≤ 1049600 ∧ L.small 1049600) := Lib.hid ⟨by omega, Cms.cost_small (by omega)⟩
  have hV : Hid (K = 0 → s.valid = true ∧ X.valid = true ∧ ∀ k : Nat, k < 8 → ((k + 1 : Nat) : Int) ∉ changedL L → X.values[k]? = s.values[k]?) := Lib.hid (by
    rw [hK, hX]
    intro h0
    exact ⟨(runsP_iff.1 (runs_of_code (s := s) (L := L) (f := f) (by rw [h0]; decide))).1, run_after_valid h0, fun k hk hd => changed_law h0 hk hd⟩)
  clear hK hX hLS hcap hL1
  have q1 := hS.out.blk.cell
  have r1 := hS.out.blk.frozen
  have l1 := hS.out.blk.lt
  go_wp2_with fail
  refine (c2.out _ _ hS.out hP.out).mono ?_
  rintro e w3 ⟨V3, e3, H3, g3, rfl, hV3, hB3⟩
  have hbx := bbox hB3 (.cells #[.slice V3 X.values.length e3, .slice H3 X.heap.length g3] tSt)
  replace hS := Lib.hid (hS.out.next hbx)
  replace hP := Lib.hid (hP.out.next hbx)
  have hX := Lib.hid (SB.new hV3.out)
  have z3 := hB3.size
  clear hB3 q1 r1 l1 hbx hV3
  have q1 := hS.out.blk.cell
  have r1 := hS.out.blk.frozen
  have l1 := hS.out.blk.lt
  go_wp2_with fail
  refine (c3.out _ _ hS.out hP.out).mono ?_
  rintro e w4 ⟨V4, e4, H4, g4, rfl, hV4, hB4⟩
  have hbx := bbox hB4 (.cells #[.slice V4 X.values.length e4, .slice H4 X.heap.length g4] tSt)
  replace hS := Lib.hid (hS.out.next hbx)
  replace hP := Lib.hid (hP.out.next hbx)
  replace hX := Lib.hid (hX.out.next hbx)
  have hW := Lib.hid (SB.new hV4.out)
  clear hB4 q1 r1 l1 hbx hV4 c2 c3
  have q2 := hX.out.blk.cell
  have r2 := hX.out.blk.frozen
  have l2 := hX.out.blk.lt
  have q3 := hW.out.blk.cell
  have r3 := hW.out.blk.frozen
  have l3 := hW.out.blk.lt
  go_wp2_with fail
  refine (same_T rfl hX.out hW.out).mono ?_
  rintro e w5 ⟨rfl, hB5⟩
  replace hS := Lib.hid (hS.out.next hB5)
  replace hP := Lib.hid (hP.out.next hB5)
  replace hX := Lib.hid (hX.out.next hB5)
  replace hW := Lib.hid (hW.out.next hB5)
  clear hB5 q2 r2 l2 q3 r3 l3
  by_cases k0 : K = 0
  case neg =>
    have b0 : (K == 0) = false := by simpa using k0
    have q2 := hX.out.blk.cell
    have r2 := hX.out.blk.frozen
    have l2 := hX.out.blk.lt
    have q3 := hW.out.blk.cell
    have r3 := hW.out.blk.frozen
    have l3 := hW.out.blk.lt
    clear hV
    go_wp2_with fail
    refine (same_T rfl hX.out hW.out).mono ?_
    rintro e w6 ⟨rfl, hB6⟩
    go_wp2_with fail
    go_ret
    exact ⟨rfl, bgo hP.out.bel hB6⟩
  subst k0
  have hV0 := Lib.hid (hV.out rfl)
  have hs8 := Lib.hid (Ste.valid_len hV0.out.1).1
  have hx8 := Lib.hid (Ste.valid_len hV0.out.2.1).1
  clear hV hW
  go_wp2_with fail
  refine (c_impl_ChangedTerms L (some ⟨b, off, none⟩) d w5 hP.out.prog.1 (Nat.le_refl _) hLen.out.1 hLen.out.2).mono ?_
  rintro e w6 ⟨r6, rfl, o6, hB6⟩
  obtain ⟨G, e6, rfl, hG⟩ := o6.reads
  replace hS := Lib.hid (hS.out.next hB6)
  replace hP := Lib.hid (hP.out.next hB6)
  replace hX := Lib.hid (hX.out.next hB6)
  have HG := Lib.hid hG
  clear o6 hG hB6 hLen
  obtain ⟨D, hD⟩ : ∃ D, D = changedL L := ⟨_, rfl⟩
  rw [← hD] at HG hV0 ⊢
  clear hD
  obtain ⟨sv, hsv⟩ : ∃ vs, vs = s.values := ⟨_, rfl⟩
  go_wp2_with fail
  go_loopw [11] (fun t wr => ∃ k : Nat, k ≤ 8 ∧ t = .int .i64 ((k : Int) + 1) ∧ Hid (Below w6.heap.size w6 wr)) (fun t _ => 10 - (intOf t).toNat)
  case atStart => exact ⟨0, by omega, rfl, Lib.hid (Below.refl _ _)⟩
  case round =>
    obtain ⟨k, hk, rfl, HB⟩ := hrel
    have hSr := Lib.hid (hS.out.next HB.out)
    have hXr := Lib.hid (hX.out.next HB.out)
    have kS := hSr.out.blk
    have kX := hXr.out.blk
    have lS := kS.lt
    have lX := kX.lt
    by_cases h8 : k < 8
    · have hki : (k : Int) + 1 ≤ 8 := by omega
      have hk8 : (k : Int) < 8 := by omega
      have hk0 : (0 : Int) ≤ (k : Int) := by omega
      have hls : k < s.values.length := by have := hs8.out; omega
      have hlx : k < X.values.length := by have := hx8.out; omega
      have hlsi : (k : Int) < (s.values.length : Int) := by omega
      have hlxi : (k : Int) < (X.values.length : Int) := by omega
      obtain ⟨bs, os, eV1, hcs⟩ : ∃ bs os, V1 = some ⟨bs, os, none⟩ ∧ wr.cell? ⟨bs, os + k, none⟩ = some (.int .i64 (s.values[k]'hls)) := by
        obtain ⟨lo, hi, A1, c1, A2, c2, e, h1, h2⟩ := hSr.out.st
        injection e with e; injection e with e; injection e with e1 e2; injection e1 with e1 e3 e4
        subst e1
        exact h1.at (by first | exact hls | exact hlx)
      obtain ⟨bx, ox, eV3, hcx⟩ : ∃ bs os, V3 = some ⟨bs, os, none⟩ ∧ wr.cell? ⟨bs, os + k, none⟩ = some (.int .i64 (X.values[k]'hlx)) := by
        obtain ⟨lo, hi, A1, c1, A2, c2, e, h1, h2⟩ := hXr.out.st
        injection e with e; injection e with e; injection e with e1 e2; injection e1 with e1 e3 e4
        subst e1
        exact h1.at (by first | exact hls | exact hlx)
      subst eV1 eV3
      have hlaw := Lib.hid (fun (h : ((k + 1 : Nat) : Int) ∉ D) => (show X.values[k]'hlx = s.values[k]'hls from by
        have := hV0.out.2.2 k h8 h
        rw [List.getElem?_eq_getElem hlx, List.getElem?_eq_getElem hls] at this
        exact Option.some.inj this))
      obtain ⟨a, ha⟩ : ∃ a, a = s.values[k]'hls := ⟨_, rfl⟩
      obtain ⟨c, hc⟩ : ∃ c, c = X.values[k]'hlx := ⟨_, rfl⟩
      rw [← ha] at hcs hlaw
      rw [← hc] at hcx hlaw
      have hbs := block_lt_of_cell hcs
      have hbx := block_lt_of_cell hcx
      simp only at hbs hbx
      have qS := kS.cell
      have rS := kS.frozen
      have qX := kX.cell
      have rX := kX.frozen
      have hwr : IntKind.i64.wrap ((k : Int) + 1 - 1) = (k : Int) := by rw [show (k : Int) + 1 - 1 = (k : Int) by omega]; exact IntWalk.i64_in _ (by omega)
      have hwk : IntKind.i64.wrap (k : Int) = (k : Int) := IntWalk.i64_in _ (by omega)
      clear ha hc
      by_cases hac : a = c
      · subst hac
        clear hlaw
        go_wp2_with fail
        refine wp_region_noPanic ?_
        refine wp_region_held_drew (S := (fun w' => (∀ i, w'.cell? ⟨w1.heap.size, i, none⟩ = #[.slice (some ⟨bs, os, none⟩) s.values.length e1, .slice H1 s.heap.length g1][i]?) ∧ (∀ i, w'.cell? ⟨w3.heap.size, i, none⟩ = #[.slice (some ⟨bx, ox, none⟩) X.values.length e3, .slice H3 X.heap.length g3][i]?) ∧ w'.cell? ⟨bs, os + k, none⟩ = some (.int .i64 a) ∧ w'.cell? ⟨bx, ox + k, none⟩ = some (.int .i64 a))) (by kernel_rfl) (⟨qS, qX, hcs, hcx⟩) (fun hHeld => ?_)
        refine wpAnyH_take (i := 0) (v := ?_) rfl (by kernel_rfl) (by kernel_rfl) (by kernel_rfl) (fun _ _ _ h => h) (Or.inl ⟨by rfl, fun w hSw => ?_⟩) hHeld ?_
        rotate_left
        · ((try dsimp only at hSw); go_split_ands; go_simp; (try with_reducible rfl))
        try simp only [Act.put, List.getElem_toArray, List.getElem_cons_zero, List.getElem_cons_succ, List.setIfInBounds_toArray, List.set_cons_zero, List.set_cons_succ]
        refine wpAnyH_take (i := 1) (v := ?_) rfl (by kernel_rfl) (by kernel_rfl) (by kernel_rfl) (fun _ _ _ h => h) (Or.inl ⟨by rfl, fun w hSw => ?_⟩) hHeld ?_
        rotate_left
        · ((try dsimp only at hSw); go_split_ands; go_simp; (try with_reducible rfl))
        try simp only [Act.put, List.getElem_toArray, List.getElem_cons_zero, List.getElem_cons_succ, List.setIfInBounds_toArray, List.set_cons_zero, List.set_cons_succ]
        refine wpAnyH_take (i := 2) (v := ?_) rfl (by kernel_rfl) (by kernel_rfl) (by kernel_rfl) (fun _ _ _ h => h) (Or.inl ⟨by rfl, fun w hSw => ?_⟩) hHeld ?_
        rotate_left
        · ((try dsimp only at hSw); go_split_ands; go_simp; (try with_reducible rfl))
        try simp only [Act.put, List.getElem_toArray, List.getElem_cons_zero, List.getElem_cons_succ, List.setIfInBounds_toArray, List.set_cons_zero, List.set_cons_succ]
        refine wpAnyH_take (i := 3) (v := ?_) rfl (by kernel_rfl) (by kernel_rfl) (by kernel_rfl) (fun _ _ _ h => h) (Or.inl ⟨by rfl, fun w hSw => ?_⟩) hHeld ?_
        rotate_left
        · ((try dsimp only at hSw); go_split_ands; go_simp; (try with_reducible rfl))
        try simp only [Act.put, List.getElem_toArray, List.getElem_cons_zero, List.getElem_cons_succ, List.setIfInBounds_toArray, List.set_cons_zero, List.set_cons_succ]
        refine wpAnyH_take (i := 4) (v := ?_) rfl (by kernel_rfl) (by kernel_rfl) (by kernel_rfl) (fun _ _ _ h => h) (Or.inl ⟨by rfl, fun w hSw => ?_⟩) hHeld ?_
        rotate_left
        · ((try dsimp only at hSw); go_split_ands; go_simp; (try with_reducible rfl))
        try simp only [Act.put, List.getElem_toArray, List.getElem_cons_zero, List.getElem_cons_succ, List.setIfInBounds_toArray, List.set_cons_zero, List.set_cons_succ]
        refine wpAnyH_take (i := 5) (v := ?_) rfl (by kernel_rfl) (by kernel_rfl) (by kernel_rfl) (fun _ _ _ h => h) (Or.inl ⟨by rfl, fun w hSw => ?_⟩) hHeld ?_
        rotate_left
        · ((try dsimp only at hSw); go_split_ands; go_simp; (try with_reducible rfl))
        try simp only [Act.put, List.getElem_toArray, List.getElem_cons_zero, List.getElem_cons_succ, List.setIfInBounds_toArray, List.set_cons_zero, List.set_cons_succ]
        refine wpAnyH_take (i := 6) (v := ?_) rfl (by kernel_rfl) (by kernel_rfl) (by kernel_rfl) (fun _ _ _ h => h) (Or.inl ⟨by rfl, fun w hSw => ?_⟩) hHeld ?_
        rotate_left
        · ((try dsimp only at hSw); go_split_ands; go_simp; (try with_reducible rfl))
        try simp only [Act.put, List.getElem_toArray, List.getElem_cons_zero, List.getElem_cons_succ, List.setIfInBounds_toArray, List.set_cons_zero, List.set_cons_succ]
        refine wpAnyH_take (i := 7) (v := ?_) rfl (by kernel_rfl) (by kernel_rfl) (by kernel_rfl) (fun _ _ _ h => h) (Or.inl ⟨by rfl, fun w hSw => ?_⟩) hHeld ?_
        rotate_left
        · ((try dsimp only at hSw); go_split_ands; go_simp; (try with_reducible rfl))
        try simp only [Act.put, List.getElem_toArray, List.getElem_cons_zero, List.getElem_cons_succ, List.setIfInBounds_toArray, List.set_cons_zero, List.set_cons_succ]
        refine wpAnyH_take (i := 8) (v := ?_) rfl (by kernel_rfl) (by kernel_rfl) (by kernel_rfl) (fun _ _ _ h => h) (Or.inl ⟨by rfl, fun w hSw => ?_⟩) hHeld ?_
        rotate_left
        · ((try dsimp only at hSw); go_split_ands; go_simp; (try with_reducible rfl))
        try simp only [Act.put, List.getElem_toArray, List.getElem_cons_zero, List.getElem_cons_succ, List.setIfInBounds_toArray, List.set_cons_zero, List.set_cons_succ]
        refine wpAnyH_take (i := 9) (v := ?_) rfl (by kernel_rfl) (by kernel_rfl) (by kernel_rfl) (fun _ _ _ h => h) (Or.inl ⟨by rfl, fun w hSw => ?_⟩) hHeld ?_
        rotate_left
        · ((try dsimp only at hSw); go_split_ands; go_simp; (try with_reducible rfl))
        try simp only [Act.put, List.getElem_toArray, List.getElem_cons_zero, List.getElem_cons_succ, List.setIfInBounds_toArray, List.set_cons_zero, List.set_cons_succ]
        refine wpAnyH_take (i := 10) (v := ?_) rfl (by kernel_rfl) (by kernel_rfl) (by kernel_rfl) (fun _ _ _ h => h) (Or.inl ⟨by rfl, fun w hSw => ?_⟩) hHeld ?_
        rotate_left
        · ((try dsimp only at hSw); go_split_ands; go_simp; (try with_reducible rfl))
        try simp only [Act.put, List.getElem_toArray, List.getElem_cons_zero, List.getElem_cons_succ, List.setIfInBounds_toArray, List.set_cons_zero, List.set_cons_succ]
        refine wpAnyH_take (i := 11) (v := ?_) rfl (by kernel_rfl) (by kernel_rfl) (by kernel_rfl) (fun _ _ _ h => h) (Or.inl ⟨by rfl, fun w hSw => ?_⟩) hHeld ?_
        rotate_left
        · ((try dsimp only at hSw); go_split_ands; go_simp; (try with_reducible rfl))
        try simp only [Act.put, List.getElem_toArray, List.getElem_cons_zero, List.getElem_cons_succ, List.setIfInBounds_toArray, List.set_cons_zero, List.set_cons_succ]
        refine wpAnyH_take (i := 12) (v := ?_) rfl (by kernel_rfl) (by kernel_rfl) (by kernel_rfl) (fun _ _ _ h => h) (Or.inl ⟨by rfl, fun w hSw => ?_⟩) hHeld ?_
        rotate_left
        · ((try dsimp only at hSw); go_split_ands; go_simp; (try with_reducible rfl))
        try simp only [Act.put, List.getElem_toArray, List.getElem_cons_zero, List.getElem_cons_succ, List.setIfInBounds_toArray, List.set_cons_zero, List.set_cons_succ]
        refine wpAnyH_take (i := 13) (v := ?_) rfl (by kernel_rfl) (by kernel_rfl) (by kernel_rfl) (fun _ _ _ h => h) (Or.inl ⟨by rfl, fun w hSw => ?_⟩) hHeld ?_
        rotate_left
        · ((try dsimp only at hSw); go_split_ands; go_simp; (try with_reducible rfl))
        try simp only [Act.put, List.getElem_toArray, List.getElem_cons_zero, List.getElem_cons_succ, List.setIfInBounds_toArray, List.set_cons_zero, List.set_cons_succ]
        refine wpAnyH_take (i := 14) (v := undef) rfl (by kernel_rfl) (by kernel_rfl) (by kernel_rfl) (fun _ _ _ h => h) (Or.inr ⟨by rfl, rfl⟩) hHeld ?_
        try simp only [Act.put, List.getElem_toArray, List.getElem_cons_zero, List.getElem_cons_succ, List.setIfInBounds_toArray, List.set_cons_zero, List.set_cons_succ]
        refine wpAnyH_take (i := 15) (v := undef) rfl (by kernel_rfl) (by kernel_rfl) (by kernel_rfl) (fun _ _ _ h => h) (Or.inr ⟨by rfl, rfl⟩) hHeld ?_
        try simp only [Act.put, List.getElem_toArray, List.getElem_cons_zero, List.getElem_cons_succ, List.setIfInBounds_toArray, List.set_cons_zero, List.set_cons_succ]
        refine wpAnyH_take (i := 16) (v := undef) rfl (by kernel_rfl) (by kernel_rfl) (by kernel_rfl) (fun _ _ _ h => h) (Or.inr ⟨by rfl, rfl⟩) hHeld ?_
        try simp only [Act.put, List.getElem_toArray, List.getElem_cons_zero, List.getElem_cons_succ, List.setIfInBounds_toArray, List.set_cons_zero, List.set_cons_succ]
        refine wpAnyH_take (i := 17) (v := undef) rfl (by kernel_rfl) (by kernel_rfl) (by kernel_rfl) (fun _ _ _ h => h) (Or.inr ⟨by rfl, rfl⟩) hHeld ?_
        try simp only [Act.put, List.getElem_toArray, List.getElem_cons_zero, List.getElem_cons_succ, List.setIfInBounds_toArray, List.set_cons_zero, List.set_cons_succ]
        refine wpAnyH_take (i := 18) (v := ?_) rfl (by kernel_rfl) (by kernel_rfl) (by kernel_rfl) (fun _ _ _ h => h) (Or.inl ⟨by rfl, fun w hSw => ?_⟩) hHeld ?_
        rotate_left
        · ((try dsimp only at hSw); go_split_ands; go_simp; (try with_reducible rfl))
        try simp only [Act.put, List.getElem_toArray, List.getElem_cons_zero, List.getElem_cons_succ, List.setIfInBounds_toArray, List.set_cons_zero, List.set_cons_succ]
        refine wpAnyH_done (by kernel_rfl) ?_ _
        refine NoPanic.normal ?_
        clear hwr hwk
        go_wp2_with fail
        go_round
        case rel => exact ⟨k + 1, by omega, by go_num, Lib.hid HB.out.drew⟩
        case measure => simp [intOf]; omega
      · have hacb : (a == c) = false := by simpa using hac
        have hacn : (a != c) = true := by simpa using hac
        have hmem : decide ((k : Int) + 1 ∈ D) = true := by
          rw [decide_eq_true_iff]
          by_cases hm : ((k + 1 : Nat) : Int) ∈ D
          · simpa using hm
          · exact absurd (hlaw.out hm).symm hac
        clear hlaw
        have HGr := Lib.hid (HG.out.below HB.out)
        go_wp2_with fail
        refine wp_region_noPanic ?_
        refine wp_region_held_drew (S := (fun w' => (∀ i, w'.cell? ⟨w1.heap.size, i, none⟩ = #[.slice (some ⟨bs, os, none⟩) s.values.length e1, .slice H1 s.heap.length g1][i]?) ∧ (∀ i, w'.cell? ⟨w3.heap.size, i, none⟩ = #[.slice (some ⟨bx, ox, none⟩) X.values.length e3, .slice H3 X.heap.length g3][i]?) ∧ w'.cell? ⟨bs, os + k, none⟩ = some (.int .i64 a) ∧ w'.cell? ⟨bx, ox + k, none⟩ = some (.int .i64 c))) (by kernel_rfl) (⟨qS, qX, hcs, hcx⟩) (fun hHeld => ?_)
        refine wpAnyH_take (i := 0) (v := ?_) rfl (by kernel_rfl) (by kernel_rfl) (by kernel_rfl) (fun _ _ _ h => h) (Or.inl ⟨by rfl, fun w hSw => ?_⟩) hHeld ?_
        rotate_left
        · ((try dsimp only at hSw); go_split_ands; go_simp; (try with_reducible rfl))
        try simp only [Act.put, List.getElem_toArray, List.getElem_cons_zero, List.getElem_cons_succ, List.setIfInBounds_toArray, List.set_cons_zero, List.set_cons_succ]
        refine wpAnyH_take (i := 1) (v := ?_) rfl (by kernel_rfl) (by kernel_rfl) (by kernel_rfl) (fun _ _ _ h => h) (Or.inl ⟨by rfl, fun w hSw => ?_⟩) hHeld ?_
        rotate_left
        · ((try dsimp only at hSw); go_split_ands; go_simp; (try with_reducible rfl))
        try simp only [Act.put, List.getElem_toArray, List.getElem_cons_zero, List.getElem_cons_succ, List.setIfInBounds_toArray, List.set_cons_zero, List.set_cons_succ]
        refine wpAnyH_take (i := 2) (v := ?_) rfl (by kernel_rfl) (by kernel_rfl) (by kernel_rfl) (fun _ _ _ h => h) (Or.inl ⟨by rfl, fun w hSw => ?_⟩) hHeld ?_
        rotate_left
        · ((try dsimp only at hSw); go_split_ands; go_simp; (try with_reducible rfl))
        try simp only [Act.put, List.getElem_toArray, List.getElem_cons_zero, List.getElem_cons_succ, List.setIfInBounds_toArray, List.set_cons_zero, List.set_cons_succ]
        refine wpAnyH_take (i := 3) (v := ?_) rfl (by kernel_rfl) (by kernel_rfl) (by kernel_rfl) (fun _ _ _ h => h) (Or.inl ⟨by rfl, fun w hSw => ?_⟩) hHeld ?_
        rotate_left
        · ((try dsimp only at hSw); go_split_ands; go_simp; (try with_reducible rfl))
        try simp only [Act.put, List.getElem_toArray, List.getElem_cons_zero, List.getElem_cons_succ, List.setIfInBounds_toArray, List.set_cons_zero, List.set_cons_succ]
        refine wpAnyH_take (i := 4) (v := ?_) rfl (by kernel_rfl) (by kernel_rfl) (by kernel_rfl) (fun _ _ _ h => h) (Or.inl ⟨by rfl, fun w hSw => ?_⟩) hHeld ?_
        rotate_left
        · ((try dsimp only at hSw); go_split_ands; go_simp; (try with_reducible rfl))
        try simp only [Act.put, List.getElem_toArray, List.getElem_cons_zero, List.getElem_cons_succ, List.setIfInBounds_toArray, List.set_cons_zero, List.set_cons_succ]
        refine wpAnyH_take (i := 5) (v := ?_) rfl (by kernel_rfl) (by kernel_rfl) (by kernel_rfl) (fun _ _ _ h => h) (Or.inl ⟨by rfl, fun w hSw => ?_⟩) hHeld ?_
        rotate_left
        · ((try dsimp only at hSw); go_split_ands; go_simp; (try with_reducible rfl))
        try simp only [Act.put, List.getElem_toArray, List.getElem_cons_zero, List.getElem_cons_succ, List.setIfInBounds_toArray, List.set_cons_zero, List.set_cons_succ]
        refine wpAnyH_take (i := 6) (v := ?_) rfl (by kernel_rfl) (by kernel_rfl) (by kernel_rfl) (fun _ _ _ h => h) (Or.inl ⟨by rfl, fun w hSw => ?_⟩) hHeld ?_
        rotate_left
        · ((try dsimp only at hSw); go_split_ands; go_simp; (try with_reducible rfl))
        try simp only [Act.put, List.getElem_toArray, List.getElem_cons_zero, List.getElem_cons_succ, List.setIfInBounds_toArray, List.set_cons_zero, List.set_cons_succ]
        refine wpAnyH_take (i := 7) (v := ?_) rfl (by kernel_rfl) (by kernel_rfl) (by kernel_rfl) (fun _ _ _ h => h) (Or.inl ⟨by rfl, fun w hSw => ?_⟩) hHeld ?_
        rotate_left
        · ((try dsimp only at hSw); go_split_ands; go_simp; (try with_reducible rfl))
        try simp only [Act.put, List.getElem_toArray, List.getElem_cons_zero, List.getElem_cons_succ, List.setIfInBounds_toArray, List.set_cons_zero, List.set_cons_succ]
        refine wpAnyH_take (i := 8) (v := ?_) rfl (by kernel_rfl) (by kernel_rfl) (by kernel_rfl) (fun _ _ _ h => h) (Or.inl ⟨by rfl, fun w hSw => ?_⟩) hHeld ?_
        rotate_left
        · ((try dsimp only at hSw); go_split_ands; go_simp; (try with_reducible rfl))
        try simp only [Act.put, List.getElem_toArray, List.getElem_cons_zero, List.getElem_cons_succ, List.setIfInBounds_toArray, List.set_cons_zero, List.set_cons_succ]
        refine wpAnyH_take (i := 9) (v := ?_) rfl (by kernel_rfl) (by kernel_rfl) (by kernel_rfl) (fun _ _ _ h => h) (Or.inl ⟨by rfl, fun w hSw => ?_⟩) hHeld ?_
        rotate_left
        · ((try dsimp only at hSw); go_split_ands; go_simp; (try with_reducible rfl))
        try simp only [Act.put, List.getElem_toArray, List.getElem_cons_zero, List.getElem_cons_succ, List.setIfInBounds_toArray, List.set_cons_zero, List.set_cons_succ]
        refine wpAnyH_take (i := 10) (v := ?_) rfl (by kernel_rfl) (by kernel_rfl) (by kernel_rfl) (fun _ _ _ h => h) (Or.inl ⟨by rfl, fun w hSw => ?_⟩) hHeld ?_
        rotate_left
        · ((try dsimp only at hSw); go_split_ands; go_simp; (try with_reducible rfl))
        try simp only [Act.put, List.getElem_toArray, List.getElem_cons_zero, List.getElem_cons_succ, List.setIfInBounds_toArray, List.set_cons_zero, List.set_cons_succ]
        refine wpAnyH_take (i := 11) (v := ?_) rfl (by kernel_rfl) (by kernel_rfl) (by kernel_rfl) (fun _ _ _ h => h) (Or.inl ⟨by rfl, fun w hSw => ?_⟩) hHeld ?_
        rotate_left
        · ((try dsimp only at hSw); go_split_ands; go_simp; (try with_reducible rfl))
        try simp only [Act.put, List.getElem_toArray, List.getElem_cons_zero, List.getElem_cons_succ, List.setIfInBounds_toArray, List.set_cons_zero, List.set_cons_succ]
        refine wpAnyH_take (i := 12) (v := ?_) rfl (by kernel_rfl) (by kernel_rfl) (by kernel_rfl) (fun _ _ _ h => h) (Or.inl ⟨by rfl, fun w hSw => ?_⟩) hHeld ?_
        rotate_left
        · ((try dsimp only at hSw); go_split_ands; go_simp; (try with_reducible rfl))
        try simp only [Act.put, List.getElem_toArray, List.getElem_cons_zero, List.getElem_cons_succ, List.setIfInBounds_toArray, List.set_cons_zero, List.set_cons_succ]
        refine wpAnyH_take (i := 13) (v := ?_) rfl (by kernel_rfl) (by kernel_rfl) (by kernel_rfl) (fun _ _ _ h => h) (Or.inl ⟨by rfl, fun w hSw => ?_⟩) hHeld ?_
        rotate_left
        · ((try dsimp only at hSw); go_split_ands; go_simp; (try with_reducible rfl))
        try simp only [Act.put, List.getElem_toArray, List.getElem_cons_zero, List.getElem_cons_succ, List.setIfInBounds_toArray, List.set_cons_zero, List.set_cons_succ]
        refine wpAnyH_take (i := 14) (v := ?_) rfl (by kernel_rfl) (by kernel_rfl) (by kernel_rfl) (fun _ _ _ h => h) (Or.inl ⟨by rfl, fun w hSw => ?_⟩) hHeld ?_
        rotate_left
        · ((try dsimp only at hSw); go_split_ands; go_simp; (try with_reducible rfl))
        try simp only [Act.put, List.getElem_toArray, List.getElem_cons_zero, List.getElem_cons_succ, List.setIfInBounds_toArray, List.set_cons_zero, List.set_cons_succ]
        refine wpAnyH_take (i := 15) (v := ?_) rfl (by kernel_rfl) (by kernel_rfl) (by kernel_rfl) (fun _ _ _ h => h) (Or.inl ⟨by rfl, fun w hSw => ?_⟩) hHeld ?_
        rotate_left
        · ((try dsimp only at hSw); go_split_ands; go_simp; (try with_reducible rfl))
        try simp only [Act.put, List.getElem_toArray, List.getElem_cons_zero, List.getElem_cons_succ, List.setIfInBounds_toArray, List.set_cons_zero, List.set_cons_succ]
        refine wpAnyH_ready (rs := [16]) (by kernel_rfl) (by simp) ?_
        refine AllReadyH.cons rfl (fun K hK => ?_) AllReadyH.nil
        try simp only [List.getElem_toArray, List.getElem_cons_zero, List.getElem_cons_succ]
        (go_simp; refine (c_slHas G e6 D _ _ (HGr.out.below bel)).mono ?_; rintro e w7 ⟨rfl, hB7⟩; rw [hmem]; have hb7 := bgo (w := wr) bel hB7; have hc7 := ((bcell hb7).1 bs (os + k) hbs).trans hcs; have hd7 := ((bcell hb7).1 bx (ox + k) hbx).trans hcx; have kS7 := kS.next hb7; have kX7 := kX.next hb7; have HB7 := Lib.hid (bgo HB.out hb7))
        refine hK.out _ _ (⟨kS7.cell, kX7.cell, hc7, hd7⟩) (fun hHeldN => ?_)
        clear hHeld hK K
        have hHeld := hHeldN
        clear hHeldN
        try simp only [Act.put, List.getElem_toArray, List.getElem_cons_zero, List.getElem_cons_succ, List.setIfInBounds_toArray, List.set_cons_zero, List.set_cons_succ]
        refine wpAnyH_take (i := 17) (v := ?_) rfl (by kernel_rfl) (by kernel_rfl) (by kernel_rfl) (fun _ _ _ h => h) (Or.inl ⟨by rfl, fun w hSw => ?_⟩) hHeld ?_
        rotate_left
        · ((try dsimp only at hSw); go_split_ands; go_simp; (try with_reducible rfl))
        try simp only [Act.put, List.getElem_toArray, List.getElem_cons_zero, List.getElem_cons_succ, List.setIfInBounds_toArray, List.set_cons_zero, List.set_cons_succ]
        refine wpAnyH_take (i := 18) (v := ?_) rfl (by kernel_rfl) (by kernel_rfl) (by kernel_rfl) (fun _ _ _ h => h) (Or.inl ⟨by rfl, fun w hSw => ?_⟩) hHeld ?_
        rotate_left
        · ((try dsimp only at hSw); go_split_ands; go_simp; (try with_reducible rfl))
        try simp only [Act.put, List.getElem_toArray, List.getElem_cons_zero, List.getElem_cons_succ, List.setIfInBounds_toArray, List.set_cons_zero, List.set_cons_succ]
        refine wpAnyH_done (by kernel_rfl) ?_ _
        refine NoPanic.normal ?_
        clear hwr hwk
        go_wp2_with fail
        go_round
        case rel => exact ⟨k + 1, by omega, by go_num, HB7⟩
        case measure => simp [intOf]; omega
    · obtain rfl : k = 8 := by omega
      have hxv := Lib.hid hV0.out.2.1
      have qX := kX.cell
      have rX := kX.frozen
      obtain ⟨lo, hi, hst⟩ := hXr.out.st
      have Hst := Lib.hid hst
      clear hst
      go_wp2_with fail
      refine (c_impl_StateValid _ X _ Hst.out).mono ?_
      rintro e w8 ⟨rfl, hB8⟩
      rw [hxv.out]
      go_wp2_with fail
      go_ret
      exact ⟨rfl, bgo hP.out.bel (bgo HB.out hB8)⟩
--@
end Go.Proofs.YtciabhddppdioaaGreat
