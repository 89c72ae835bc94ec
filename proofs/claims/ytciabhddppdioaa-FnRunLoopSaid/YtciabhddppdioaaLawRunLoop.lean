/- 'laws.FnRunLoop' returns true for all bytes that can be read. -/
import Derived.Test.YtciabhddppdioaaMDrawZb
import Derived.Test.YtciabhddppdioaaRunT
import Derived.Test.YtciabhddppdioaaRunL
import Derived.Deep.DeepCutAuto
set_option linter.unusedSimpArgs false
set_option linter.unusedVariables false
namespace Go.Proofs.Ytciabhddppdioaa
open Go Go.RowKit Go.Proofs
attribute [local go_sem ↓] Go.wp_at_zero Go.wp_at_succ
--@ laws.FnRunLoop
set_option maxRecDepth 100000 in
set_option maxHeartbeats 6400000 in
theorem c_FnRunLoop (v : Value) (A : Option Addr × Nat × Nat) (w : World) (h : v = .slice A.1 A.2.1 A.2.2 ∧ BytesR w A.1 A.2.1 A.2.2) : Calls Try.prog 9 #[v] w fun e w' => e = .returned (.bool true) ∧ Below w.heap.size w w' := by
  obtain ⟨A, n, c⟩ := A
  obtain ⟨rfl, hR⟩ := h
  simp only at hR ⊢
  have HR := Lib.hid hR
  clear hR
  by_cases hn : 1048576 < n
  · have hni : (1048576 : Int) < (n : Int) := by omega
    clear hn
    go_enter Try.func9, Try.ntmps9
    go_wp2_with fail
    go_ret
    exact ⟨rfl, bel⟩
  have hni : ¬ (1048576 : Int) < (n : Int) := by omega
  clear hn
  go_enter Try.func9, Try.ntmps9
  go_wp2_with fail
  refine (c_DrawRun A n c _ HR.out).mono ?_
  rintro e w1 ⟨r, s, B, d, L, f, rfl, o, -, -, hV, hLS, ⟨hcap, hL1⟩, hf, hB1⟩
  obtain ⟨V1, e1, H1, g1, rfl, HS1⟩ := o.open_
  have hbx : Below w1.heap.size w1 (w1.alloc (.cells #[.slice V1 s.values.length e1, .slice H1 s.heap.length g1] tSt)) := bbox (Below.refl _ _) _
  have hS := Lib.hid (SB.new HS1.out)
  have hP := Lib.hid ((PB.mk (w := w) hB1 ⟨hV, by omega⟩).next hbx)
  have hz := hB1.size
  obtain ⟨b, off, rfl, -⟩ := hP.out.open_ hL1
  clear o hB1 hV HR HS1 hbx
  obtain ⟨hf1, hf2⟩ := hf
  obtain ⟨K, hK⟩ : ∃ K, K = codeF s L f := ⟨_, rfl⟩
  obtain ⟨X, hX⟩ : ∃ X, X = afterF s L f := ⟨_, rfl⟩
  have c2 := Lib.hid (fun W n hS hP => r_impl (w := w) (W := W) (x := w1.heap.size) (c := e1) (d := g1) (n := n) (V := V1) (H := H1) (B := some ⟨b, off, none⟩) (s := s) (L := L) f hS hP)
  have c3 := Lib.hid (fun W n hS hP => r_spec (w := w) (W := W) (x := w1.heap.size) (c := e1) (d := g1) (n := n) (V := V1) (H := H1) (B := some ⟨b, off, none⟩) (s := s) (L := L) f hS hP)
  rw [← hK, ← hX] at c2 c3
  obtain ⟨n1, hn1⟩ : ∃ n1, L.len = n1 + 1 := ⟨L.len - 1, by omega⟩
  obtain ⟨kd, ka, kb, ⟨te, ta, tb⟩, i, body, els, eL, eA⟩ := Cms.last_ hn1
  have hPl : (L.take n1).len = n1 := Cms.take_len n1 L (by omega)
  have hPc := Cms.take_cost n1 L
  have hAt : Hid (CmsAt (w1.alloc (.cells #[.slice V1 s.values.length e1, .slice H1 s.heap.length g1] tSt)) w.heap.size (w1.alloc (.cells #[.slice V1 s.values.length e1, .slice H1 s.heap.length g1] tSt)).heap.size L b off) := by
    obtain ⟨b', off', e, -, -, hA⟩ := hP.out.open_ hL1
    injection e with e
    injection e with e1 e2
    subst e1 e2
    exact Lib.hid hA
  obtain ⟨Pr, hPr⟩ : ∃ Pr, Pr = L.take n1 := ⟨_, rfl⟩
  have hPV : Hid (CmsV (w1.alloc (.cells #[.slice V1 s.values.length e1, .slice H1 s.heap.length g1] tSt)) w.heap.size (w1.alloc (.cells #[.slice V1 s.values.length e1, .slice H1 s.heap.length g1] tSt)).heap.size (some ⟨b, off, none⟩) Pr) := Lib.hid (by rw [hPr]; exact (PB.take n1 hP.out).prog.1)
  rw [← hPr] at hPl hPc eA
  obtain rfl : n1 = Pr.len := hPl.symm
  have hD := hAt.out.drop Pr.len
  rw [eL] at hD
  obtain ⟨⟨p0, p1, p2, p3, p4, p5⟩, ⟨A6, c6, p6, g6⟩, ⟨A7, c7, p7, g7⟩, ⟨A8, c8, p8, g8⟩, ⟨A9, c9, p9, g9⟩, -⟩ := hD
  have hcostL : Hid (Pr.cost + (i.facts.length + i.atoms.length + (body.len + body.cost) + (els.len + els.cost)) ≤ 1000 ∧ Pr.len ≤ 1000) := Lib.hid (by
    have h1 := hLS
    rw [eA, Cms.len_app, Cms.cost_app] at h1
    simp only [Cms.len, Cms.cost] at h1
    omega)
  have hx10 : Hid (CmsV (w1.alloc (.cells #[.slice V1 s.values.length e1, .slice H1 s.heap.length g1] tSt)) w.heap.size (w1.alloc (.cells #[.slice V1 s.values.length e1, .slice H1 s.heap.length g1] tSt)).heap.size A8 body) := Lib.hid g8
  have hx11 : Hid (CmsV (w1.alloc (.cells #[.slice V1 s.values.length e1, .slice H1 s.heap.length g1] tSt)) w.heap.size (w1.alloc (.cells #[.slice V1 s.values.length e1, .slice H1 s.heap.length g1] tSt)).heap.size A9 els) := Lib.hid g9
  have hx12 := Lib.hid g6
  have hx13 := Lib.hid g7
  have hcells := Lib.hid (And.intro p0 (And.intro p1 (And.intro p2 (And.intro p3 (And.intro p4 (And.intro p5 (And.intro p6 (And.intro p7 (And.intro p8 p9)))))))))
  have hbl : b < (w1.alloc (.cells #[.slice V1 s.values.length e1, .slice H1 s.heap.length g1] tSt)).heap.size := block_lt_of_cell p0
  clear p0 p1 p2 p3 p4 p5 p6 p7 p8 p9 g6 g7 g8 g9 hAt hPr eL
  obtain ⟨M, hM⟩ : ∃ M, M = L.len := ⟨_, rfl⟩
  have hMP : M = Pr.len + 1 := by omega
  have hMd : Pr.len ≤ d := by omega
  have hMi : (M : Int) - 1 = (Pr.len : Int) := by omega
  have hM0 : ((M : Int) == 0) = false := by simp; omega
  have hMl : (Pr.len : Int) < (M : Int) := by omega
  have hM0' : ¬ (M : Int) = 0 := by omega
  have hPb : (Pr.len : Int) ≤ 1000 := by have := hcostL.out.2; omega
  have hMb : (M : Int) ≤ 1001 := by omega
  clear hMP
  obtain ⟨O, hO⟩ : ∃ O, O = Pr.app (.cons 6 0 0 ⟨te, ta, tb⟩ ⟨[], []⟩ (body.app (.cons kd ka kb ⟨te, ta, tb⟩ i body els .nil)) .nil .nil) := ⟨_, rfl⟩
  have hlaw : Hid (kd = 7 → K ≠ 4 → codeF s O f ≠ 4 → codeF s O f = K ∧ afterF s O f = X) := Lib.hid (by
    intro h7 h4 h5
    rw [hK] at h4
    have hr := runs_of_code h4
    subst h7
    have hr2 : runsP s (Pr.app (.cons 7 ka kb ⟨te, ta, tb⟩ i body els .nil)) f = true := by rw [← eA]; exact hr
    rw [hO] at h5 ⊢
    have h9 := loop_law Pr 0 0 ka kb ⟨te, ta, tb⟩ ⟨[], []⟩ i body els hr2 h5
    rw [← eA] at h9
    rw [hK, hX]
    exact h9)
  rw [← hM] at c2 c3 ⊢
  replace hM := Lib.hid hM
  replace eA := Lib.hid eA
  replace hO := Lib.hid hO
  replace hPc := Lib.hid hPc
  clear hK hX hLS hcap hL1 hn1
  have q1 := hS.out.blk.cell
  have r1 := hS.out.blk.frozen
  have l1 := hS.out.blk.lt
  go_wp2_with fail
  obtain ⟨W0, hW0⟩ : ∃ W0, W0 = (w1.alloc (.cells #[.slice V1 s.values.length e1, .slice H1 s.heap.length g1] tSt)) := ⟨_, rfl⟩
  rw [← hW0] at hS hP hPV hx10 hx11 hx12 hx13 hcells hbl ⊢
  have hzz : w.heap.size ≤ W0.heap.size := hP.out.bel.size
  clear hW0 q1 r1 l1
  have q1 := hS.out.blk.cell
  have r1 := hS.out.blk.frozen
  have l1 := hS.out.blk.lt
  refine (c2.out _ _ hS.out hP.out).mono ?_
  rintro e w3 ⟨V3, e3, H3, g3, rfl, hV3, hB3⟩
  have hb3 := Lib.hid (bbox hB3 (.cells #[.slice V3 X.values.length e3, .slice H3 X.heap.length g3] tSt))
  replace hS := Lib.hid (hS.out.next hb3.out)
  replace hP := Lib.hid (hP.out.next hb3.out)
  have hX := Lib.hid (SB.new hV3.out)
  have z3 := hB3.size
  clear hB3 q1 r1 l1 hV3
  have q1 := hS.out.blk.cell
  have r1 := hS.out.blk.frozen
  have l1 := hS.out.blk.lt
  go_wp2_with fail
  refine (c3.out _ _ hS.out hP.out).mono ?_
  rintro e w4 ⟨V4, e4, H4, g4, rfl, hV4, hB4⟩
  have hbx := bbox hB4 (.cells #[.slice V4 X.values.length e4, .slice H4 X.heap.length g4] tSt)
  have hb4 := Lib.hid (bgo hb3.out hbx)
  replace hS := Lib.hid (hS.out.next hbx)
  replace hP := Lib.hid (hP.out.next hbx)
  replace hX := Lib.hid (hX.out.next hbx)
  have hW := Lib.hid (SB.new hV4.out)
  clear hB4 q1 r1 l1 hbx hV4 c2 c3 hb3
  have q2 := hX.out.blk.cell
  have r2 := hX.out.blk.frozen
  have l2 := hX.out.blk.lt
  have q3 := hW.out.blk.cell
  have r3 := hW.out.blk.frozen
  have l3 := hW.out.blk.lt
  go_wp2_with fail
  refine (same_T rfl hX.out hW.out).mono ?_
  rintro e w5 ⟨rfl, hB5⟩
  have hb5 := Lib.hid (bgo hb4.out hB5)
  replace hS := Lib.hid (hS.out.next hB5)
  replace hP := Lib.hid (hP.out.next hB5)
  replace hX := Lib.hid (hX.out.next hB5)
  replace hW := Lib.hid (hW.out.next hB5)
  replace hPV := Lib.hid (hPV.out.below hb5.out)
  replace hx10 := Lib.hid (hx10.out.below hb5.out)
  replace hx11 := Lib.hid (hx11.out.below hb5.out)
  replace hx12 := Lib.hid (hx12.out.below hb5.out)
  replace hx13 := Lib.hid (hx13.out.below hb5.out)
  clear hB5 q2 r2 l2 q3 r3 l3 hb4
  obtain ⟨p0, p1, p2, p3, p4, p5, p6, p7, p8, p9⟩ := hcells.out
  replace p0 := ((bcell hb5.out).1 _ _ hbl).trans p0
  replace p1 := ((bcell hb5.out).1 _ _ hbl).trans p1
  replace p2 := ((bcell hb5.out).1 _ _ hbl).trans p2
  replace p3 := ((bcell hb5.out).1 _ _ hbl).trans p3
  replace p4 := ((bcell hb5.out).1 _ _ hbl).trans p4
  replace p5 := ((bcell hb5.out).1 _ _ hbl).trans p5
  replace p6 := ((bcell hb5.out).1 _ _ hbl).trans p6
  replace p7 := ((bcell hb5.out).1 _ _ hbl).trans p7
  replace p8 := ((bcell hb5.out).1 _ _ hbl).trans p8
  replace p9 := ((bcell hb5.out).1 _ _ hbl).trans p9
  have HP9 := Lib.hid (And.intro p1 (And.intro p2 (And.intro p3 (And.intro p4 (And.intro p5 (And.intro p6 (And.intro p7 (And.intro p8 p9))))))))
  clear p1 p2 p3 p4 p5 p6 p7 p8 p9
  have hbl5 : b < w5.heap.size := Nat.lt_of_lt_of_le hbl hb5.out.size
  have z05 := hb5.out.size
  clear hcells hb5
  have back : ∀ W : World, Hid (SB W w3.heap.size V3 e3 H3 g3 X → SB W w4.heap.size V4 e4 H4 g4 X → Calls Try.prog 28 #[.agg #[.slice V3 X.values.length e3, .slice H3 X.heap.length g3], .agg #[.slice V4 X.values.length e4, .slice H4 X.heap.length g4]] W fun e w' => e = .returned (.bool true) ∧ Below W.heap.size W w') := fun W => Lib.hid (fun h1 h2 => same_T rfl h1 h2)
  by_cases k4 : K = 4
  · subst k4
    have q2 := hX.out.blk.cell
    have r2 := hX.out.blk.frozen
    have l2 := hX.out.blk.lt
    have q3 := hW.out.blk.cell
    have r3 := hW.out.blk.frozen
    have l3 := hW.out.blk.lt
    clear hlaw p0
    go_wp2_with fail
    refine ((back _).out hX.out hW.out).mono ?_
    rintro e w6 ⟨rfl, hB6⟩
    go_wp2_with fail
    go_ret
    exact ⟨rfl, bgo hP.out.bel hB6⟩
  have b4 : (K == 4) = false := by simpa using k4
  have k4' : ¬ K = 4 := k4
  by_cases h7 : kd = 7
  case neg =>
    have b7 : (kd == 7) = false := by simpa using h7
    have q2 := hX.out.blk.cell
    have r2 := hX.out.blk.frozen
    have l2 := hX.out.blk.lt
    have q3 := hW.out.blk.cell
    have r3 := hW.out.blk.frozen
    have l3 := hW.out.blk.lt
    clear hlaw
    go_wp2_with fail
    refine ((back _).out hX.out hW.out).mono ?_
    rintro e w6 ⟨rfl, hB6⟩
    go_wp2_with fail
    go_ret
    exact ⟨rfl, bgo hP.out.bel hB6⟩
  subst h7
  replace hlaw := Lib.hid (hlaw.out rfl k4)
  clear k4 back hW
  obtain ⟨p1, p2, p3, p4, p5, p6, p7, p8, p9⟩ := HP9.out

  go_upto_region 9 with fail
  clear p0 p1 p2 p3 p4 p5 p6 p7 p8 p9 hM0 hM0'
  have kL : Blk (w5.alloc (.cells #[.int .i64 7, .int .i64 ka, .int .i64 kb, .bool te, .int .i64 ta, .int .i64 tb, .slice A6 i.facts.length c6, .slice A7 i.atoms.length c7, .slice A8 body.len c8, .slice A9 els.len c9] tC)) w5.heap.size tC #[.int .i64 7, .int .i64 ka, .int .i64 kb, .bool te, .int .i64 ta, .int .i64 tb, .slice A6 i.facts.length c6, .slice A7 i.atoms.length c7, .slice A8 body.len c8, .slice A9 els.len c9] := Blk.new _ _ _
  have hb8 : Below w5.heap.size w5 (w5.alloc (.cells #[.int .i64 7, .int .i64 ka, .int .i64 kb, .bool te, .int .i64 ta, .int .i64 tb, .slice A6 i.facts.length c6, .slice A7 i.atoms.length c7, .slice A8 body.len c8, .slice A9 els.len c9] tC)) := bbox (Below.refl _ _) _
  have z8 : w5.heap.size + 1 ≤ (w5.alloc (.cells #[.int .i64 7, .int .i64 ka, .int .i64 kb, .bool te, .int .i64 ta, .int .i64 tb, .slice A6 i.facts.length c6, .slice A7 i.atoms.length c7, .slice A8 body.len c8, .slice A9 els.len c9] tC)).heap.size := by simp
  generalize (w5.alloc (.cells #[.int .i64 7, .int .i64 ka, .int .i64 kb, .bool te, .int .i64 ta, .int .i64 tb, .slice A6 i.facts.length c6, .slice A7 i.atoms.length c7, .slice A8 body.len c8, .slice A9 els.len c9] tC)) = w8 at kL hb8 z8 ⊢
  replace hS := Lib.hid (hS.out.next hb8)
  replace hP := Lib.hid (hP.out.next hb8)
  replace hX := Lib.hid (hX.out.next hb8)
  replace hPV := Lib.hid (hPV.out.below hb8)
  have hBV := Lib.hid (hx10.out.below hb8)
  have Y6 := Lib.hid ((Rw.below hx12.out hb8).x')
  have Y7 := Lib.hid ((Rw.below hx13.out hb8).x')
  have Y8 := Lib.hid hBV.out.part
  have Y9 := Lib.hid ((hx11.out.below hb8).part)
  have hzw : w.heap.size ≤ w8.heap.size := by omega
  have hbcost := hcostL.out
  have hbody : body.len ≤ 1000 := by omega
  clear hb8 hx10 hx11 hx12 hx13 hbcost
  go_cut [11] (fun s11 wc => ∃ (AB : Option Addr) (cB : Nat), s11 = .slice AB (body.app (.cons 7 ka kb ⟨te, ta, tb⟩ i body els .nil)).len cB ∧ Hid (CmsN wc w.heap.size (.slice AB (body.app (.cons 7 ka kb ⟨te, ta, tb⟩ i body els .nil)).len cB) (body.app (.cons 7 ka kb ⟨te, ta, tb⟩ i body els .nil))) ∧ Hid (Below w8.heap.size w8 wc))
  case first =>
    go_wp2_with fail
    refine wp_region_noPanic ?_
    refine wp_region_held_drew (S := (fun w' => ∀ j, w'.cell? ⟨w5.heap.size, j, none⟩ = #[.int .i64 7, .int .i64 ka, .int .i64 kb, .bool te, .int .i64 ta, .int .i64 tb, .slice A6 i.facts.length c6, .slice A7 i.atoms.length c7, .slice A8 body.len c8, .slice A9 els.len c9][j]?)) (by kernel_rfl) (Blk.cell blks) (fun hHeld => ?_)
    refine wpAnyH_take (i := 1) (v := ?_) rfl (by kernel_rfl) (by kernel_rfl) (by kernel_rfl) (fun _ _ _ h => h) (Or.inl ⟨by rfl, fun w hSw => ?_⟩) hHeld ?_
    rotate_left
    · ((try dsimp only at hSw); go_split_ands; go_simp; (try with_reducible rfl))
    try simp only [Act.put, List.getElem_toArray, List.getElem_cons_zero, List.getElem_cons_succ, List.setIfInBounds_toArray, List.set_cons_zero, List.set_cons_succ]
    refine wpAnyH_take (i := 2) (v := ?_) rfl (by kernel_rfl) (by kernel_rfl) (by kernel_rfl) (fun _ _ _ h => h) (Or.inl ⟨by rfl, fun w hSw => ?_⟩) hHeld ?_
    rotate_left
    · ((try dsimp only at hSw); go_split_ands; go_simp; (try with_reducible rfl))
    try simp only [Act.put, List.getElem_toArray, List.getElem_cons_zero, List.getElem_cons_succ, List.setIfInBounds_toArray, List.set_cons_zero, List.set_cons_succ]
    refine wpAnyH_take (i := 4) (v := ?_) rfl (by kernel_rfl) (by kernel_rfl) (by kernel_rfl) (fun _ _ _ h => h) (Or.inl ⟨by rfl, fun w hSw => ?_⟩) hHeld ?_
    rotate_left
    · ((try dsimp only at hSw); go_split_ands; go_simp; (try with_reducible rfl))
    try simp only [Act.put, List.getElem_toArray, List.getElem_cons_zero, List.getElem_cons_succ, List.setIfInBounds_toArray, List.set_cons_zero, List.set_cons_succ]
    refine wpAnyH_ready (rs := [0, 5]) (by kernel_rfl) (by simp) ?_
    refine AllReadyH.cons rfl (fun K hK => ?_) (AllReadyH.cons rfl (fun K hK => ?_) (AllReadyH.nil))
    · skip
      try simp only [List.getElem_toArray, List.getElem_cons_zero, List.getElem_cons_succ]
      go_simp
      refine hK.out _ _ (Blk.cell blks) (fun hHeldN => ?_)
      clear hHeld hK K
      have hHeld := hHeldN
      clear hHeldN
      try simp only [Act.put, List.getElem_toArray, List.getElem_cons_zero, List.getElem_cons_succ, List.setIfInBounds_toArray, List.set_cons_zero, List.set_cons_succ]
      refine wpAnyH_ready (rs := [3, 5]) (by kernel_rfl) (by simp) ?_
      refine AllReadyH.cons rfl (fun K hK => ?_) (AllReadyH.cons rfl (fun K hK => ?_) (AllReadyH.nil))
      · skip
        refine stepC0 (L := body) (A := A8) (base := w.heap.size) rfl _ _ rfl (by rfl) (g0 := w8.heap.size) blks (by rfl) (hBV.out.below bel) (by first | omega | (simp <;> omega)) (by first | omega | (simp <;> omega)) (by first | omega | exact Nat.le_trans hPlen (by decide)) ?_; intro v9 w9 N9 hv9 hg9 hB9; have hb9 : Below w8.heap.size w8 w9 := (bel : Below w8.heap.size w8 _).trans (grown_below (x0 := w8.heap.size) hg9 (by first | omega | (simp <;> omega)) (by first | omega | (simp <;> omega))); have m9 := Blk.grown (g := w5.heap.size) blks hg9 (fun e => by injection e with e; first | omega | (simp at e; omega))
        refine hK.out _ _ m9.cell (fun hHeldN => ?_)
        clear hHeld hK K
        have hHeld := hHeldN
        clear hHeldN
        have lm9 := m9.lt
        refine wpAnyH_ready (rs := [5]) (by kernel_rfl) (by simp) ?_
        refine AllReadyH.cons rfl (fun K hK => ?_) AllReadyH.nil
        try simp only [List.getElem_toArray, List.getElem_cons_zero, List.getElem_cons_succ]
        go_simp
        refine hK.out _ _ (Blk.cell blks) (fun hHeldN => ?_)
        clear hHeld hK K
        have hHeld := hHeldN
        clear hHeldN
        try simp only [Act.put, List.getElem_toArray, List.getElem_cons_zero, List.getElem_cons_succ, List.setIfInBounds_toArray, List.set_cons_zero, List.set_cons_succ]
        have hbY := bbox hb9 (.cells #[.int .i64 7, .int .i64 ka, .int .i64 kb, .bool te, .int .i64 ta, .int .i64 tb, .slice A6 i.facts.length c6, .slice A7 i.atoms.length c7, .slice A8 body.len c8, .slice A9 els.len c9] tC)
        have hown : ∀ y, y < w8.heap.size → v9.ownBlock ≠ some y := fun y hy e => by rcases hv9 with q | q <;> rw [q] at e <;> injection e with e <;> first | omega | (simp at e; omega)
        have hX9 : ∀ y, (w.heap.size ≤ y ∧ y < W0.heap.size) → (w.heap.size ≤ y ∧ v9.ownBlock ≠ some y) := fun y hy => ⟨hy.1, hown y (by omega)⟩
        refine wpAnyH_ready (rs := [6]) (by kernel_rfl) (by simp) ?_
        refine AllReadyH.cons rfl (fun K hK => ?_) AllReadyH.nil
        skip
        (refine stepC1 (L := body) (k := 7) (ka := ka) (kb := kb) (t := ⟨te, ta, tb⟩) (i := i) (body := body) (els := els) (base := w.heap.size) (x5 := w9.heap.size) rfl _ _ rfl (by rfl) (N9.below (bbox (Below.refl _ _) _)) (by rfl) (Blk.new w9 _ _) (by omega) (by first | (have := hbY.size; omega) | (have := hbY.size; simp at this ⊢; omega)) ((Y6.out.keep fun y _ hl => hbY.block y hl).mono fun y hy _ => hX9 y hy) ((Y7.out.keep fun y _ hl => hbY.block y hl).mono fun y hy _ => hX9 y hy) ((Y8.out.keep fun y _ hl => hbY.block y hl).mono fun y hy _ => hX9 y hy) ((Y9.out.keep fun y _ hl => hbY.block y hl).mono fun y hy _ => hX9 y hy) ?_; intro v10 w10 N10 hg10 hB10; have hb10 : Below w8.heap.size w8 w10 := hbY.trans (own_below8 hg10 hown hbY.size); have m10 := Blk.grown (g := w5.heap.size) blks hg10 (fun e => hown _ (by omega) e.symm); obtain ⟨AB, cB, rfl, -⟩ := N10.reads)
        refine hK.out _ _ (m10.cell) (fun hHeldN => ?_)
        clear hHeld hK K
        have hHeld := hHeldN
        clear hHeldN
        try simp only [Act.put, List.getElem_toArray, List.getElem_cons_zero, List.getElem_cons_succ, List.setIfInBounds_toArray, List.set_cons_zero, List.set_cons_succ]
        refine wpAnyH_ready (rs := [7]) (by kernel_rfl) (by simp) ?_
        refine AllReadyH.cons rfl (fun K hK => ?_) AllReadyH.nil
        try simp only [List.getElem_toArray, List.getElem_cons_zero, List.getElem_cons_succ]
        go_simp
        refine hK.out _ _ (Blk.cell blks) (fun hHeldN => ?_)
        clear hHeld hK K
        have hHeld := hHeldN
        clear hHeldN
        try simp only [Act.put, List.getElem_toArray, List.getElem_cons_zero, List.getElem_cons_succ, List.setIfInBounds_toArray, List.set_cons_zero, List.set_cons_succ]
        refine wpAnyH_done (by kernel_rfl) ?_ _
        refine NoPanic.normal ?_
        go_wp2_with fail
        go_meet
        case rel => exact ⟨AB, cB, rfl, Lib.hid N10, Lib.hid hb10⟩
      · skip
        try simp only [List.getElem_toArray, List.getElem_cons_zero, List.getElem_cons_succ]
        go_simp
        refine hK.out _ _ (Blk.cell blks) (fun hHeldN => ?_)
        clear hHeld hK K
        have hHeld := hHeldN
        clear hHeldN
        refine wpAnyH_ready (rs := [3]) (by kernel_rfl) (by simp) ?_
        refine AllReadyH.cons rfl (fun K hK => ?_) AllReadyH.nil
        skip
        (refine stepC0 (L := body) (A := A8) (base := w.heap.size) rfl _ _ rfl (by rfl) (g0 := w8.heap.size) blks (by rfl) (hBV.out.below bel) (by first | omega | (simp <;> omega)) (by first | omega | (simp <;> omega)) (by first | omega | exact Nat.le_trans hPlen (by decide)) ?_; intro v9 w9 N9 hv9 hg9 hB9; have hb9 : Below w8.heap.size w8 w9 := (bel : Below w8.heap.size w8 _).trans (grown_below (x0 := w8.heap.size) hg9 (by first | omega | (simp <;> omega)) (by first | omega | (simp <;> omega))); have m9 := Blk.grown (g := w5.heap.size) blks hg9 (fun e => by injection e with e; first | omega | (simp at e; omega)); have t9 := Blk.grown (g := (w8.heap.size + 1)) blks hg9 (fun e => by injection e with e; first | omega | (simp at e; omega)))
        refine hK.out _ _ (m9.cell) (fun hHeldN => ?_)
        clear hHeld hK K
        have hHeld := hHeldN
        clear hHeldN
        try simp only [Act.put, List.getElem_toArray, List.getElem_cons_zero, List.getElem_cons_succ, List.setIfInBounds_toArray, List.set_cons_zero, List.set_cons_succ]
        have lm9 := m9.lt
        have hbY := hb9
        have hown : ∀ y, y < w8.heap.size → v9.ownBlock ≠ some y := fun y hy e => by rcases hv9 with q | q <;> rw [q] at e <;> injection e with e <;> first | omega | (simp at e; omega)
        have hX9 : ∀ y, (w.heap.size ≤ y ∧ y < W0.heap.size) → (w.heap.size ≤ y ∧ v9.ownBlock ≠ some y) := fun y hy => ⟨hy.1, hown y (by omega)⟩
        refine wpAnyH_ready (rs := [6]) (by kernel_rfl) (by simp) ?_
        refine AllReadyH.cons rfl (fun K hK => ?_) AllReadyH.nil
        skip
        (refine stepC1 (L := body) (k := 7) (ka := ka) (kb := kb) (t := ⟨te, ta, tb⟩) (i := i) (body := body) (els := els) (base := w.heap.size) (x5 := (w8.heap.size + 1)) rfl _ _ rfl (by rfl) N9 (by rfl) t9 (by omega) (by first | (have := hbY.size; omega) | (have := hbY.size; simp at this ⊢; omega)) ((Y6.out.keep fun y _ hl => hbY.block y hl).mono fun y hy _ => hX9 y hy) ((Y7.out.keep fun y _ hl => hbY.block y hl).mono fun y hy _ => hX9 y hy) ((Y8.out.keep fun y _ hl => hbY.block y hl).mono fun y hy _ => hX9 y hy) ((Y9.out.keep fun y _ hl => hbY.block y hl).mono fun y hy _ => hX9 y hy) ?_; intro v10 w10 N10 hg10 hB10; have hb10 : Below w8.heap.size w8 w10 := hbY.trans (own_below8 hg10 hown hbY.size); have m10 := Blk.grown (g := w5.heap.size) blks hg10 (fun e => hown _ (by omega) e.symm); obtain ⟨AB, cB, rfl, -⟩ := N10.reads)
        refine hK.out _ _ (m10.cell) (fun hHeldN => ?_)
        clear hHeld hK K
        have hHeld := hHeldN
        clear hHeldN
        try simp only [Act.put, List.getElem_toArray, List.getElem_cons_zero, List.getElem_cons_succ, List.setIfInBounds_toArray, List.set_cons_zero, List.set_cons_succ]
        refine wpAnyH_ready (rs := [7]) (by kernel_rfl) (by simp) ?_
        refine AllReadyH.cons rfl (fun K hK => ?_) AllReadyH.nil
        try simp only [List.getElem_toArray, List.getElem_cons_zero, List.getElem_cons_succ]
        go_simp
        refine hK.out _ _ (Blk.cell blks) (fun hHeldN => ?_)
        clear hHeld hK K
        have hHeld := hHeldN
        clear hHeldN
        try simp only [Act.put, List.getElem_toArray, List.getElem_cons_zero, List.getElem_cons_succ, List.setIfInBounds_toArray, List.set_cons_zero, List.set_cons_succ]
        refine wpAnyH_done (by kernel_rfl) ?_ _
        refine NoPanic.normal ?_
        go_wp2_with fail
        go_meet
        case rel => exact ⟨AB, cB, rfl, Lib.hid N10, Lib.hid hb10⟩
    · skip
      try simp only [List.getElem_toArray, List.getElem_cons_zero, List.getElem_cons_succ]
      go_simp
      refine hK.out _ _ (Blk.cell blks) (fun hHeldN => ?_)
      clear hHeld hK K
      have hHeld := hHeldN
      clear hHeldN
      refine wpAnyH_ready (rs := [0]) (by kernel_rfl) (by simp) ?_
      refine AllReadyH.cons rfl (fun K hK => ?_) AllReadyH.nil
      try simp only [List.getElem_toArray, List.getElem_cons_zero, List.getElem_cons_succ]
      go_simp
      refine hK.out _ _ (Blk.cell blks) (fun hHeldN => ?_)
      clear hHeld hK K
      have hHeld := hHeldN
      clear hHeldN
      try simp only [Act.put, List.getElem_toArray, List.getElem_cons_zero, List.getElem_cons_succ, List.setIfInBounds_toArray, List.set_cons_zero, List.set_cons_succ]
      refine wpAnyH_ready (rs := [3]) (by kernel_rfl) (by simp) ?_
      refine AllReadyH.cons rfl (fun K hK => ?_) AllReadyH.nil
      skip
      (refine stepC0 (L := body) (A := A8) (base := w.heap.size) rfl _ _ rfl (by rfl) (g0 := (w8.heap.size + 1)) blks (by rfl) (hBV.out.below bel) (by first | omega | (simp <;> omega)) (by first | omega | (simp <;> omega)) (by first | omega | exact Nat.le_trans hPlen (by decide)) ?_; intro v9 w9 N9 hv9 hg9 hB9; have hb9 : Below w8.heap.size w8 w9 := (bel : Below w8.heap.size w8 _).trans (grown_below (x0 := (w8.heap.size + 1)) hg9 (by first | omega | (simp <;> omega)) (by first | omega | (simp <;> omega))); have m9 := Blk.grown (g := w5.heap.size) blks hg9 (fun e => by injection e with e; first | omega | (simp at e; omega)); have t9 := Blk.grown (g := w8.heap.size) blks hg9 (fun e => by injection e with e; first | omega | (simp at e; omega)))
      refine hK.out _ _ (m9.cell) (fun hHeldN => ?_)
      clear hHeld hK K
      have hHeld := hHeldN
      clear hHeldN
      try simp only [Act.put, List.getElem_toArray, List.getElem_cons_zero, List.getElem_cons_succ, List.setIfInBounds_toArray, List.set_cons_zero, List.set_cons_succ]
      have lm9 := m9.lt
      have hbY := hb9
      have hown : ∀ y, y < w8.heap.size → v9.ownBlock ≠ some y := fun y hy e => by rcases hv9 with q | q <;> rw [q] at e <;> injection e with e <;> first | omega | (simp at e; omega)
      have hX9 : ∀ y, (w.heap.size ≤ y ∧ y < W0.heap.size) → (w.heap.size ≤ y ∧ v9.ownBlock ≠ some y) := fun y hy => ⟨hy.1, hown y (by omega)⟩
      refine wpAnyH_ready (rs := [6]) (by kernel_rfl) (by simp) ?_
      refine AllReadyH.cons rfl (fun K hK => ?_) AllReadyH.nil
      skip
      (refine stepC1 (L := body) (k := 7) (ka := ka) (kb := kb) (t := ⟨te, ta, tb⟩) (i := i) (body := body) (els := els) (base := w.heap.size) (x5 := w8.heap.size) rfl _ _ rfl (by rfl) N9 (by rfl) t9 (by omega) (by first | (have := hbY.size; omega) | (have := hbY.size; simp at this ⊢; omega)) ((Y6.out.keep fun y _ hl => hbY.block y hl).mono fun y hy _ => hX9 y hy) ((Y7.out.keep fun y _ hl => hbY.block y hl).mono fun y hy _ => hX9 y hy) ((Y8.out.keep fun y _ hl => hbY.block y hl).mono fun y hy _ => hX9 y hy) ((Y9.out.keep fun y _ hl => hbY.block y hl).mono fun y hy _ => hX9 y hy) ?_; intro v10 w10 N10 hg10 hB10; have hb10 : Below w8.heap.size w8 w10 := hbY.trans (own_below8 hg10 hown hbY.size); have m10 := Blk.grown (g := w5.heap.size) blks hg10 (fun e => hown _ (by omega) e.symm); obtain ⟨AB, cB, rfl, -⟩ := N10.reads)
      refine hK.out _ _ (m10.cell) (fun hHeldN => ?_)
      clear hHeld hK K
      have hHeld := hHeldN
      clear hHeldN
      try simp only [Act.put, List.getElem_toArray, List.getElem_cons_zero, List.getElem_cons_succ, List.setIfInBounds_toArray, List.set_cons_zero, List.set_cons_succ]
      refine wpAnyH_ready (rs := [7]) (by kernel_rfl) (by simp) ?_
      refine AllReadyH.cons rfl (fun K hK => ?_) AllReadyH.nil
      try simp only [List.getElem_toArray, List.getElem_cons_zero, List.getElem_cons_succ]
      go_simp
      refine hK.out _ _ (Blk.cell blks) (fun hHeldN => ?_)
      clear hHeld hK K
      have hHeld := hHeldN
      clear hHeldN
      try simp only [Act.put, List.getElem_toArray, List.getElem_cons_zero, List.getElem_cons_succ, List.setIfInBounds_toArray, List.set_cons_zero, List.set_cons_succ]
      refine wpAnyH_done (by kernel_rfl) ?_ _
      refine NoPanic.normal ?_
      go_wp2_with fail
      go_meet
      case rel => exact ⟨AB, cB, rfl, Lib.hid N10, Lib.hid hb10⟩
  case rest =>
    obtain ⟨AB, cB, rfl, hN, hb⟩ := hcut
    obtain ⟨wx, rfl⟩ : ∃ z, z = wc := ⟨_, rfl⟩
    replace hS := Lib.hid (hS.out.next hb.out)
    replace hP := Lib.hid (hP.out.next hb.out)
    replace hX := Lib.hid (hX.out.next hb.out)
    replace hPV := Lib.hid (hPV.out.below hb.out)
    replace kL := kL.next hb.out
    have zx := hb.out.size
    clear hb hBV Y6 Y7 Y8 Y9 hbody
    have Y6 : Hid (RwX wx (fun y => w.heap.size ≤ y ∧ y < wx.heap.size) 3 none ([] : List Fct).length (encF [])) := Lib.hid ⟨rfl, fun h => by simp at h⟩
    have Y7 : Hid (RwX wx (fun y => w.heap.size ≤ y ∧ y < wx.heap.size) 3 none ([] : List Atm).length (encA [])) := Lib.hid ⟨rfl, fun h => by simp at h⟩
    have Y8 := Lib.hid (hN.out.part.mono (Y := fun y => w.heap.size ≤ y ∧ y < wx.heap.size) fun y hy hl => ⟨hy, hl⟩)
    have Y9 : Hid (PartX wx (fun y => w.heap.size ≤ y ∧ y < wx.heap.size) none .nil) := Lib.hid (PartX.nil none)
    have hsl := sliceCh b off M d Pr.len hMd
    have hPlim : Pr.len ≤ 1000 := by omega
    have hwr : IntKind.i64.wrap (Pr.len : Int) = (Pr.len : Int) := IntWalk.i64_in _ (by omega)
    replace hzw : w.heap.size ≤ wx.heap.size := by omega
    have hzL : w5.heap.size + 1 ≤ wx.heap.size := by omega
    have ql := kL.cell
    have rl := kL.frozen
    have ll := kL.lt
    go_upto_region 10 with fail
    go_cut [12] (fun s12 wc => ∃ (AO : Option Addr) (cO : Nat), s12 = .slice AO O.len cO ∧ Hid (CmsN wc w.heap.size (.slice AO O.len cO) O) ∧ Hid (Below wx.heap.size wx wc))
    case first =>
      go_wp2_with fail
      refine wp_region_noPanic ?_
      refine wp_region_held_drew (S := (fun w' => ∀ j, w'.cell? ⟨w5.heap.size, j, none⟩ = #[.int .i64 7, .int .i64 ka, .int .i64 kb, .bool te, .int .i64 ta, .int .i64 tb, .slice A6 i.facts.length c6, .slice A7 i.atoms.length c7, .slice A8 body.len c8, .slice A9 els.len c9][j]?)) (by kernel_rfl) (Blk.cell blks) (fun hHeld => ?_)
      refine wpAnyH_take (i := 1) (v := ?_) rfl (by kernel_rfl) (by kernel_rfl) (by kernel_rfl) (fun _ _ _ h => h) (Or.inl ⟨by rfl, fun w hSw => ?_⟩) hHeld ?_
      rotate_left
      · ((try dsimp only at hSw); go_split_ands; go_simp; (try with_reducible rfl))
      try simp only [Act.put, List.getElem_toArray, List.getElem_cons_zero, List.getElem_cons_succ, List.setIfInBounds_toArray, List.set_cons_zero, List.set_cons_succ]
      refine wpAnyH_take (i := 2) (v := ?_) rfl (by kernel_rfl) (by kernel_rfl) (by kernel_rfl) (fun _ _ _ h => h) (Or.inl ⟨by rfl, fun w hSw => ?_⟩) hHeld ?_
      rotate_left
      · ((try dsimp only at hSw); go_split_ands; go_simp; (try with_reducible rfl))
      try simp only [Act.put, List.getElem_toArray, List.getElem_cons_zero, List.getElem_cons_succ, List.setIfInBounds_toArray, List.set_cons_zero, List.set_cons_succ]
      refine wpAnyH_take (i := 3) (v := ?_) rfl (by kernel_rfl) (by kernel_rfl) (by kernel_rfl) (fun _ _ _ h => h) (Or.inl ⟨by rfl, fun w hSw => ?_⟩) hHeld ?_
      rotate_left
      · ((try dsimp only at hSw); go_split_ands; go_simp; (try with_reducible rfl))
      try simp only [Act.put, List.getElem_toArray, List.getElem_cons_zero, List.getElem_cons_succ, List.setIfInBounds_toArray, List.set_cons_zero, List.set_cons_succ]
      refine wpAnyH_take (i := 4) (v := ?_) rfl (by kernel_rfl) (by kernel_rfl) (by kernel_rfl) (fun _ _ _ h => h) (Or.inl ⟨by rfl, fun w hSw => ?_⟩) hHeld ?_
      rotate_left
      · ((try dsimp only at hSw); go_split_ands; go_simp; (try with_reducible rfl))
      try simp only [Act.put, List.getElem_toArray, List.getElem_cons_zero, List.getElem_cons_succ, List.setIfInBounds_toArray, List.set_cons_zero, List.set_cons_succ]
      refine wpAnyH_take (i := 5) (v := ?_) rfl (by kernel_rfl) (by kernel_rfl) (by kernel_rfl) (fun _ _ _ h => h) (Or.inl ⟨by rfl, fun w hSw => ?_⟩) hHeld ?_
      rotate_left
      · ((try dsimp only at hSw); go_split_ands; go_simp; (try with_reducible rfl))
      try simp only [Act.put, List.getElem_toArray, List.getElem_cons_zero, List.getElem_cons_succ, List.setIfInBounds_toArray, List.set_cons_zero, List.set_cons_succ]
      refine wpAnyH_take (i := 7) (v := ?_) rfl (by kernel_rfl) (by kernel_rfl) (by kernel_rfl) (fun _ _ _ h => h) (Or.inl ⟨by rfl, fun w hSw => ?_⟩) hHeld ?_
      rotate_left
      · ((try dsimp only at hSw); go_split_ands; go_simp; (try with_reducible rfl))
      try simp only [Act.put, List.getElem_toArray, List.getElem_cons_zero, List.getElem_cons_succ, List.setIfInBounds_toArray, List.set_cons_zero, List.set_cons_succ]
      refine wpAnyH_take (i := 8) (v := ?_) rfl (by kernel_rfl) (by kernel_rfl) (by kernel_rfl) (fun _ _ _ h => h) (Or.inl ⟨by rfl, fun w hSw => ?_⟩) hHeld ?_
      rotate_left
      · ((try dsimp only at hSw); go_split_ands; go_simp; (try with_reducible rfl))
      try simp only [Act.put, List.getElem_toArray, List.getElem_cons_zero, List.getElem_cons_succ, List.setIfInBounds_toArray, List.set_cons_zero, List.set_cons_succ]
      refine wpAnyH_take (i := 9) (v := ?_) rfl (by kernel_rfl) (by kernel_rfl) (by kernel_rfl) (fun _ _ _ h => h) (Or.inl ⟨by rfl, fun w hSw => ?_⟩) hHeld ?_
      rotate_left
      · ((try dsimp only at hSw); go_split_ands; go_simp; (try with_reducible rfl))
      try simp only [Act.put, List.getElem_toArray, List.getElem_cons_zero, List.getElem_cons_succ, List.setIfInBounds_toArray, List.set_cons_zero, List.set_cons_succ]
      refine wpAnyH_take (i := 10) (v := ?_) rfl (by kernel_rfl) (by kernel_rfl) (by kernel_rfl) (fun _ _ _ h => h) (Or.inl ⟨by rfl, fun w hSw => ?_⟩) hHeld ?_
      rotate_left
      · ((try dsimp only at hSw); go_split_ands; go_simp; (try with_reducible rfl))
      try simp only [Act.put, List.getElem_toArray, List.getElem_cons_zero, List.getElem_cons_succ, List.setIfInBounds_toArray, List.set_cons_zero, List.set_cons_succ]
      refine wpAnyH_ready (rs := [0, 11]) (by kernel_rfl) (by simp) ?_
      refine AllReadyH.cons rfl (fun K hK => ?_) (AllReadyH.cons rfl (fun K hK => ?_) (AllReadyH.nil))
      · skip
        try simp only [List.getElem_toArray, List.getElem_cons_zero, List.getElem_cons_succ]
        go_simp
        refine hK.out _ _ (Blk.cell blks) (fun hHeldN => ?_)
        clear hHeld hK K
        have hHeld := hHeldN
        clear hHeldN
        try simp only [Act.put, List.getElem_toArray, List.getElem_cons_zero, List.getElem_cons_succ, List.setIfInBounds_toArray, List.set_cons_zero, List.set_cons_succ]
        refine wpAnyH_ready (rs := [6, 11]) (by kernel_rfl) (by simp) ?_
        refine AllReadyH.cons rfl (fun K hK => ?_) (AllReadyH.cons rfl (fun K hK => ?_) (AllReadyH.nil))
        · skip
          refine stepC0 (L := Pr) (A := some ⟨b, off, none⟩) (base := w.heap.size) rfl _ _ rfl (by rfl) (g0 := wx.heap.size) blks (by rfl) (hPV.out.below bel) (by first | omega | (simp <;> omega)) (by first | omega | (simp <;> omega)) (by first | omega | omega) ?_; intro v9 w9 N9 hv9 hg9 hB9; have hb9 : Below wx.heap.size wx w9 := (bel : Below wx.heap.size wx _).trans (grown_below (x0 := wx.heap.size) hg9 (by first | omega | (simp <;> omega)) (by first | omega | (simp <;> omega))); have m9 := Blk.grown (g := w5.heap.size) blks hg9 (fun e => by injection e with e; first | omega | (simp at e; omega))
          refine hK.out _ _ m9.cell (fun hHeldN => ?_)
          clear hHeld hK K
          have hHeld := hHeldN
          clear hHeldN
          have lm9 := m9.lt
          refine wpAnyH_ready (rs := [11]) (by kernel_rfl) (by simp) ?_
          refine AllReadyH.cons rfl (fun K hK => ?_) AllReadyH.nil
          try simp only [List.getElem_toArray, List.getElem_cons_zero, List.getElem_cons_succ]
          go_simp
          refine hK.out _ _ (Blk.cell blks) (fun hHeldN => ?_)
          clear hHeld hK K
          have hHeld := hHeldN
          clear hHeldN
          try simp only [Act.put, List.getElem_toArray, List.getElem_cons_zero, List.getElem_cons_succ, List.setIfInBounds_toArray, List.set_cons_zero, List.set_cons_succ]
          have hbY := bbox hb9 (.cells #[.int .i64 6, .int .i64 0, .int .i64 0, .bool te, .int .i64 ta, .int .i64 tb, .slice none 0 0, .slice none 0 0, .slice AB (body.app (.cons 7 ka kb ⟨te, ta, tb⟩ i body els .nil)).len cB, .slice none 0 0] tC)
          have hown : ∀ y, y < wx.heap.size → v9.ownBlock ≠ some y := fun y hy e => by rcases hv9 with q | q <;> rw [q] at e <;> injection e with e <;> first | omega | (simp at e; omega)
          have hX9 : ∀ y, (w.heap.size ≤ y ∧ y < wx.heap.size) → (w.heap.size ≤ y ∧ v9.ownBlock ≠ some y) := fun y hy => ⟨hy.1, hown y (by omega)⟩
          refine wpAnyH_ready (rs := [12]) (by kernel_rfl) (by simp) ?_
          refine AllReadyH.cons rfl (fun K hK => ?_) AllReadyH.nil
          skip
          (refine stepC1 (L := Pr) (k := 6) (ka := 0) (kb := 0) (t := ⟨te, ta, tb⟩) (i := ⟨[], []⟩) (body := body.app (.cons 7 ka kb ⟨te, ta, tb⟩ i body els .nil)) (els := .nil) (AF := none) (cF := 0) (AA := none) (cA := 0) (AB := AB) (cB := cB) (AE := none) (cE := 0) (base := w.heap.size) (x5 := w9.heap.size) rfl _ _ rfl (by rfl) (N9.below (bbox (Below.refl _ _) _)) (by rfl) (Blk.new w9 _ _) (by omega) (by first | (have := hbY.size; omega) | (have := hbY.size; simp at this ⊢; omega)) ((Y6.out.keep fun y _ hl => hbY.block y hl).mono fun y hy hl => hX9 y hy) ((Y7.out.keep fun y _ hl => hbY.block y hl).mono fun y hy hl => hX9 y hy) ((Y8.out.keep fun y _ hl => hbY.block y hl).mono fun y hy hl => hX9 y hy) ((Y9.out.keep fun y _ hl => hbY.block y hl).mono fun y hy hl => hX9 y hy) ?_; intro v10 w10 N10 hg10 hB10; have hb10 : Below wx.heap.size wx w10 := hbY.trans (own_below8 hg10 hown hbY.size); have m10 := Blk.grown (g := w5.heap.size) blks hg10 (fun e => hown _ (by omega) e.symm); obtain ⟨AO, cO, rfl, -⟩ := N10.reads)
          refine hK.out _ _ (m10.cell) (fun hHeldN => ?_)
          clear hHeld hK K
          have hHeld := hHeldN
          clear hHeldN
          try simp only [Act.put, List.getElem_toArray, List.getElem_cons_zero, List.getElem_cons_succ, List.setIfInBounds_toArray, List.set_cons_zero, List.set_cons_succ]
          refine wpAnyH_ready (rs := [13]) (by kernel_rfl) (by simp) ?_
          refine AllReadyH.cons rfl (fun K hK => ?_) AllReadyH.nil
          try simp only [List.getElem_toArray, List.getElem_cons_zero, List.getElem_cons_succ]
          go_simp
          refine hK.out _ _ (Blk.cell blks) (fun hHeldN => ?_)
          clear hHeld hK K
          have hHeld := hHeldN
          clear hHeldN
          try simp only [Act.put, List.getElem_toArray, List.getElem_cons_zero, List.getElem_cons_succ, List.setIfInBounds_toArray, List.set_cons_zero, List.set_cons_succ]
          refine wpAnyH_done (by kernel_rfl) ?_ _
          refine NoPanic.normal ?_
          go_wp2_with fail
          go_meet
          case rel => exact ⟨AO, cO, by rw [hO.out], Lib.hid (by rw [hO.out]; exact N10), Lib.hid hb10⟩
        · skip
          try simp only [List.getElem_toArray, List.getElem_cons_zero, List.getElem_cons_succ]
          go_simp
          refine hK.out _ _ (Blk.cell blks) (fun hHeldN => ?_)
          clear hHeld hK K
          have hHeld := hHeldN
          clear hHeldN
          refine wpAnyH_ready (rs := [6]) (by kernel_rfl) (by simp) ?_
          refine AllReadyH.cons rfl (fun K hK => ?_) AllReadyH.nil
          skip
          (refine stepC0 (L := Pr) (A := some ⟨b, off, none⟩) (base := w.heap.size) rfl _ _ rfl (by rfl) (g0 := wx.heap.size) blks (by rfl) (hPV.out.below bel) (by first | omega | (simp <;> omega)) (by first | omega | (simp <;> omega)) (by first | omega | omega) ?_; intro v9 w9 N9 hv9 hg9 hB9; have hb9 : Below wx.heap.size wx w9 := (bel : Below wx.heap.size wx _).trans (grown_below (x0 := wx.heap.size) hg9 (by first | omega | (simp <;> omega)) (by first | omega | (simp <;> omega))); have m9 := Blk.grown (g := w5.heap.size) blks hg9 (fun e => by injection e with e; first | omega | (simp at e; omega)); have t9 := Blk.grown (g := (wx.heap.size + 1)) blks hg9 (fun e => by injection e with e; first | omega | (simp at e; omega)))
          refine hK.out _ _ (m9.cell) (fun hHeldN => ?_)
          clear hHeld hK K
          have hHeld := hHeldN
          clear hHeldN
          try simp only [Act.put, List.getElem_toArray, List.getElem_cons_zero, List.getElem_cons_succ, List.setIfInBounds_toArray, List.set_cons_zero, List.set_cons_succ]
          have lm9 := m9.lt
          have hbY := hb9
          have hown : ∀ y, y < wx.heap.size → v9.ownBlock ≠ some y := fun y hy e => by rcases hv9 with q | q <;> rw [q] at e <;> injection e with e <;> first | omega | (simp at e; omega)
          have hX9 : ∀ y, (w.heap.size ≤ y ∧ y < wx.heap.size) → (w.heap.size ≤ y ∧ v9.ownBlock ≠ some y) := fun y hy => ⟨hy.1, hown y (by omega)⟩
          refine wpAnyH_ready (rs := [12]) (by kernel_rfl) (by simp) ?_
          refine AllReadyH.cons rfl (fun K hK => ?_) AllReadyH.nil
          skip
          (refine stepC1 (L := Pr) (k := 6) (ka := 0) (kb := 0) (t := ⟨te, ta, tb⟩) (i := ⟨[], []⟩) (body := body.app (.cons 7 ka kb ⟨te, ta, tb⟩ i body els .nil)) (els := .nil) (AF := none) (cF := 0) (AA := none) (cA := 0) (AB := AB) (cB := cB) (AE := none) (cE := 0) (base := w.heap.size) (x5 := (wx.heap.size + 1)) rfl _ _ rfl (by rfl) N9 (by rfl) t9 (by omega) (by first | (have := hbY.size; omega) | (have := hbY.size; simp at this ⊢; omega)) ((Y6.out.keep fun y _ hl => hbY.block y hl).mono fun y hy hl => hX9 y hy) ((Y7.out.keep fun y _ hl => hbY.block y hl).mono fun y hy hl => hX9 y hy) ((Y8.out.keep fun y _ hl => hbY.block y hl).mono fun y hy hl => hX9 y hy) ((Y9.out.keep fun y _ hl => hbY.block y hl).mono fun y hy hl => hX9 y hy) ?_; intro v10 w10 N10 hg10 hB10; have hb10 : Below wx.heap.size wx w10 := hbY.trans (own_below8 hg10 hown hbY.size); have m10 := Blk.grown (g := w5.heap.size) blks hg10 (fun e => hown _ (by omega) e.symm); obtain ⟨AO, cO, rfl, -⟩ := N10.reads)
          refine hK.out _ _ (m10.cell) (fun hHeldN => ?_)
          clear hHeld hK K
          have hHeld := hHeldN
          clear hHeldN
          try simp only [Act.put, List.getElem_toArray, List.getElem_cons_zero, List.getElem_cons_succ, List.setIfInBounds_toArray, List.set_cons_zero, List.set_cons_succ]
          refine wpAnyH_ready (rs := [13]) (by kernel_rfl) (by simp) ?_
          refine AllReadyH.cons rfl (fun K hK => ?_) AllReadyH.nil
          try simp only [List.getElem_toArray, List.getElem_cons_zero, List.getElem_cons_succ]
          go_simp
          refine hK.out _ _ (Blk.cell blks) (fun hHeldN => ?_)
          clear hHeld hK K
          have hHeld := hHeldN
          clear hHeldN
          try simp only [Act.put, List.getElem_toArray, List.getElem_cons_zero, List.getElem_cons_succ, List.setIfInBounds_toArray, List.set_cons_zero, List.set_cons_succ]
          refine wpAnyH_done (by kernel_rfl) ?_ _
          refine NoPanic.normal ?_
          go_wp2_with fail
          go_meet
          case rel => exact ⟨AO, cO, by rw [hO.out], Lib.hid (by rw [hO.out]; exact N10), Lib.hid hb10⟩
      · skip
        try simp only [List.getElem_toArray, List.getElem_cons_zero, List.getElem_cons_succ]
        go_simp
        refine hK.out _ _ (Blk.cell blks) (fun hHeldN => ?_)
        clear hHeld hK K
        have hHeld := hHeldN
        clear hHeldN
        refine wpAnyH_ready (rs := [0]) (by kernel_rfl) (by simp) ?_
        refine AllReadyH.cons rfl (fun K hK => ?_) AllReadyH.nil
        try simp only [List.getElem_toArray, List.getElem_cons_zero, List.getElem_cons_succ]
        go_simp
        refine hK.out _ _ (Blk.cell blks) (fun hHeldN => ?_)
        clear hHeld hK K
        have hHeld := hHeldN
        clear hHeldN
        try simp only [Act.put, List.getElem_toArray, List.getElem_cons_zero, List.getElem_cons_succ, List.setIfInBounds_toArray, List.set_cons_zero, List.set_cons_succ]
        refine wpAnyH_ready (rs := [6]) (by kernel_rfl) (by simp) ?_
        refine AllReadyH.cons rfl (fun K hK => ?_) AllReadyH.nil
        skip
        (refine stepC0 (L := Pr) (A := some ⟨b, off, none⟩) (base := w.heap.size) rfl _ _ rfl (by rfl) (g0 := (wx.heap.size + 1)) blks (by rfl) (hPV.out.below bel) (by first | omega | (simp <;> omega)) (by first | omega | (simp <;> omega)) (by first | omega | omega) ?_; intro v9 w9 N9 hv9 hg9 hB9; have hb9 : Below wx.heap.size wx w9 := (bel : Below wx.heap.size wx _).trans (grown_below (x0 := (wx.heap.size + 1)) hg9 (by first | omega | (simp <;> omega)) (by first | omega | (simp <;> omega))); have m9 := Blk.grown (g := w5.heap.size) blks hg9 (fun e => by injection e with e; first | omega | (simp at e; omega)); have t9 := Blk.grown (g := wx.heap.size) blks hg9 (fun e => by injection e with e; first | omega | (simp at e; omega)))
        refine hK.out _ _ (m9.cell) (fun hHeldN => ?_)
        clear hHeld hK K
        have hHeld := hHeldN
        clear hHeldN
        try simp only [Act.put, List.getElem_toArray, List.getElem_cons_zero, List.getElem_cons_succ, List.setIfInBounds_toArray, List.set_cons_zero, List.set_cons_succ]
        have lm9 := m9.lt
        have hbY := hb9
        have hown : ∀ y, y < wx.heap.size → v9.ownBlock ≠ some y := fun y hy e => by rcases hv9 with q | q <;> rw [q] at e <;> injection e with e <;> first | omega | (simp at e; omega)
        have hX9 : ∀ y, (w.heap.size ≤ y ∧ y < wx.heap.size) → (w.heap.size ≤ y ∧ v9.ownBlock ≠ some y) := fun y hy => ⟨hy.1, hown y (by omega)⟩
        refine wpAnyH_ready (rs := [12]) (by kernel_rfl) (by simp) ?_
        refine AllReadyH.cons rfl (fun K hK => ?_) AllReadyH.nil
        skip
        (refine stepC1 (L := Pr) (k := 6) (ka := 0) (kb := 0) (t := ⟨te, ta, tb⟩) (i := ⟨[], []⟩) (body := body.app (.cons 7 ka kb ⟨te, ta, tb⟩ i body els .nil)) (els := .nil) (AF := none) (cF := 0) (AA := none) (cA := 0) (AB := AB) (cB := cB) (AE := none) (cE := 0) (base := w.heap.size) (x5 := wx.heap.size) rfl _ _ rfl (by rfl) N9 (by rfl) t9 (by omega) (by first | (have := hbY.size; omega) | (have := hbY.size; simp at this ⊢; omega)) ((Y6.out.keep fun y _ hl => hbY.block y hl).mono fun y hy hl => hX9 y hy) ((Y7.out.keep fun y _ hl => hbY.block y hl).mono fun y hy hl => hX9 y hy) ((Y8.out.keep fun y _ hl => hbY.block y hl).mono fun y hy hl => hX9 y hy) ((Y9.out.keep fun y _ hl => hbY.block y hl).mono fun y hy hl => hX9 y hy) ?_; intro v10 w10 N10 hg10 hB10; have hb10 : Below wx.heap.size wx w10 := hbY.trans (own_below8 hg10 hown hbY.size); have m10 := Blk.grown (g := w5.heap.size) blks hg10 (fun e => hown _ (by omega) e.symm); obtain ⟨AO, cO, rfl, -⟩ := N10.reads)
        refine hK.out _ _ (m10.cell) (fun hHeldN => ?_)
        clear hHeld hK K
        have hHeld := hHeldN
        clear hHeldN
        try simp only [Act.put, List.getElem_toArray, List.getElem_cons_zero, List.getElem_cons_succ, List.setIfInBounds_toArray, List.set_cons_zero, List.set_cons_succ]
        refine wpAnyH_ready (rs := [13]) (by kernel_rfl) (by simp) ?_
        refine AllReadyH.cons rfl (fun K hK => ?_) AllReadyH.nil
        try simp only [List.getElem_toArray, List.getElem_cons_zero, List.getElem_cons_succ]
        go_simp
        refine hK.out _ _ (Blk.cell blks) (fun hHeldN => ?_)
        clear hHeld hK K
        have hHeld := hHeldN
        clear hHeldN
        try simp only [Act.put, List.getElem_toArray, List.getElem_cons_zero, List.getElem_cons_succ, List.setIfInBounds_toArray, List.set_cons_zero, List.set_cons_succ]
        refine wpAnyH_done (by kernel_rfl) ?_ _
        refine NoPanic.normal ?_
        go_wp2_with fail
        go_meet
        case rel => exact ⟨AO, cO, by rw [hO.out], Lib.hid (by rw [hO.out]; exact N10), Lib.hid hb10⟩
    case rest =>
      obtain ⟨AO, cO, rfl, hNO, hb⟩ := hcut
      obtain ⟨wy, rfl⟩ : ∃ z, z = wc := ⟨_, rfl⟩
      replace hS := Lib.hid (hS.out.next hb.out)
      replace hP := Lib.hid (hP.out.next hb.out)
      replace hX := Lib.hid (hX.out.next hb.out)
      have PBO : PB w wy AO O := ⟨hP.out.bel, by
        obtain ⟨A', c', e, hV⟩ := hNO.out.reads
        injection e with e1 e2 e3
        subst e1
        refine ⟨hV, ?_⟩
        have := hcostL.out
        rw [hO.out]
        simp only [Cms.len_app, Cms.cost_app, Cms.len, Cms.cost, List.length_nil]
        omega⟩
      have dR := Lib.hid (r_impl (n := cO) f hS.out PBO)
      obtain ⟨K2, hK2⟩ : ∃ K2, K2 = codeF s O f := ⟨_, rfl⟩
      obtain ⟨X2, hX2⟩ : ∃ X2, X2 = afterF s O f := ⟨_, rfl⟩
      rw [← hK2, ← hX2] at dR hlaw
      clear hK2 hX2 hsl hN kL ql rl ll Y6 Y7 Y8 Y9 hb hNO PBO hPV
      have q1 := hS.out.blk.cell
      have r1 := hS.out.blk.frozen
      have l1 := hS.out.blk.lt
      go_wp2_with fail
      refine dR.out.mono ?_
      rintro e w6 ⟨V6, e6, H6, g6, rfl, hV6, hB6⟩
      have hbx := bbox hB6 (.cells #[.slice V6 X2.values.length e6, .slice H6 X2.heap.length g6] tSt)
      replace hP := Lib.hid (hP.out.next hbx)
      replace hX := Lib.hid (hX.out.next hbx)
      have hZ := Lib.hid (SB.new hV6.out)
      clear hB6 q1 r1 l1 hbx hV6 dR hS
      have q2 := hX.out.blk.cell
      have r2 := hX.out.blk.frozen
      have l2 := hX.out.blk.lt
      have q3 := hZ.out.blk.cell
      have r3 := hZ.out.blk.frozen
      have l3 := hZ.out.blk.lt
      by_cases k5 : K2 = 4
      · subst k5
        go_wp2_with fail
        go_ret
        exact ⟨rfl, hP.out.bel⟩
      · obtain ⟨rfl, rfl⟩ := hlaw.out k5
        go_wp2_with fail
        refine (same_T rfl hX.out hZ.out).mono ?_
        rintro e w7 ⟨rfl, hB7⟩
        go_wp2_with fail
        go_ret
        exact ⟨rfl, bgo hP.out.bel hB7⟩
--@
end Go.Proofs.Ytciabhddppdioaa
