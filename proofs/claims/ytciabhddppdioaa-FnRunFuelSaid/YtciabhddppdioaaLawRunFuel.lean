/- 'laws.FnRunFuel' returns true for all bytes that can be read. -/
import Derived.Test.YtciabhddppdioaaMDrawZc
import Derived.Test.YtciabhddppdioaaMRunK
set_option linter.unusedSimpArgs false
set_option linter.unusedVariables false
namespace Go.Proofs.Ytciabhddppdioaa
open Go Go.RowKit Go.Proofs
attribute [local go_sem ↓] Go.wp_at_zero Go.wp_at_succ
--@ laws.FnRunFuel
set_option maxRecDepth 100000 in
set_option maxHeartbeats 6400000 in
theorem c_FnRunFuel (v : Value) (A : Option Addr × Nat × Nat) (v' : Value) (A' : Option Addr × Nat × Nat) (w : World) (h : v = .slice A.1 A.2.1 A.2.2 ∧ BytesR w A.1 A.2.1 A.2.2) (h' : v' = .slice A'.1 A'.2.1 A'.2.2 ∧ BytesR w A'.1 A'.2.1 A'.2.2) : Calls Try.prog 11 #[v, v'] w fun e w' => e = .returned (.bool true) ∧ Below w.heap.size w w' := by
  obtain ⟨A, n, c⟩ := A
  obtain ⟨A', n', c'⟩ := A'
  obtain ⟨rfl, hR⟩ := h
  obtain ⟨rfl, hR'⟩ := h'
  simp only at hR hR' ⊢
  have HR := Lib.hid hR
  clear hR hR'
  by_cases hn : 1048576 < n
  · have hni : (1048576 : Int) < (n : Int) := by omega
    clear hn
    go_enter Try.func11, Try.ntmps11
    go_wp2_with fail
    go_ret
    exact ⟨rfl, bel⟩
  have hni : ¬ (1048576 : Int) < (n : Int) := by omega
  clear hn
  by_cases hn : 1048576 < n'
  · have hni' : (1048576 : Int) < (n' : Int) := by omega
    clear hn
    go_enter Try.func11, Try.ntmps11
    go_wp2_with fail
    go_ret
    exact ⟨rfl, bel⟩
  have hni' : ¬ (1048576 : Int) < (n' : Int) := by omega
  clear hn
  go_enter Try.func11, Try.ntmps11
  go_wp2_with fail
  refine (c_DrawRunSteps A n c _ HR.out).mono ?_
  rintro e w1 ⟨r, s, B, d, L, f, rfl, o, -, -, hV, hLS, -, hf, hB1⟩
  obtain ⟨V1, e1, H1, g1, rfl, HS1⟩ := o.open_
  have hbx : Below w1.heap.size w1 (w1.alloc (.cells #[.slice V1 s.values.length e1, .slice H1 s.heap.length g1] tSt)) := bbox (Below.refl _ _) _
  have hS := Lib.hid (SB.new HS1.out)
  have hP := Lib.hid ((PB.mk (w := w) hB1 ⟨hV, by omega⟩).next hbx)
  have hz := hB1.size
  clear o hB1 hV HR hLS HS1 hbx
  obtain ⟨hf1, hf2⟩ := hf
  obtain ⟨N, hN⟩ : ∃ N, N = stepsF s L f := ⟨_, rfl⟩
  obtain ⟨K, hK⟩ : ∃ K, K = codeF s L f := ⟨_, rfl⟩
  obtain ⟨X, hX⟩ : ∃ X, X = afterF s L f := ⟨_, rfl⟩
  have c1 := Lib.hid (fun W n hS hP => s_impl (w := w) (W := W) (x := w1.heap.size) (c := e1) (d := g1) (n := n) (V := V1) (H := H1) (B := B) (s := s) (L := L) f hS hP)
  have c2 := Lib.hid (fun W n hS hP => r_impl (w := w) (W := W) (x := w1.heap.size) (c := e1) (d := g1) (n := n) (V := V1) (H := H1) (B := B) (s := s) (L := L) f hS hP)
  have c3 := Lib.hid (fun W n hS hP => s_spec (w := w) (W := W) (x := w1.heap.size) (c := e1) (d := g1) (n := n) (V := V1) (H := H1) (B := B) (s := s) (L := L) f hS hP)
  rw [← hN] at c1 c3
  rw [← hK, ← hX] at c2
  have hle : Hid (K ≠ 4 → 0 ≤ N ∧ N ≤ f) := Lib.hid (by rw [hK, hN]; exact fun h => steps_le (runs_of_code h))
  have hfl : Hid (K ≠ 4 → K ≠ 3 → ∀ f', N ≤ f' → f' ≤ 200 → codeF s L f' = K ∧ afterF s L f' = X) := Lib.hid (by rw [hK, hN, hX]; exact fun h h3 f' h1 h2 => fuel_law (runs_of_code h) h3 h1 h2)
  clear hN hK hX
  have q1 := hS.out.blk.cell
  have r1 := hS.out.blk.frozen
  have l1 := hS.out.blk.lt
  go_wp2_with fail
  refine (c1.out _ _ hS.out hP.out).mono ?_
  rintro e w2 ⟨rfl, hB2⟩
  replace hS := Lib.hid (hS.out.next hB2)
  replace hP := Lib.hid (hP.out.next hB2)
  clear hB2 q1 r1 l1
  have q1 := hS.out.blk.cell
  have r1 := hS.out.blk.frozen
  have l1 := hS.out.blk.lt
  go_wp2_with fail
  refine (c2.out _ _ hS.out hP.out).mono ?_
  rintro e w3 ⟨V3, e3, H3, g3, rfl, hV3, hB3⟩
  have hbx : Below w2.heap.size w2 (w3.alloc (.cells #[.slice V3 X.values.length e3, .slice H3 X.heap.length g3] tSt)) := bbox hB3 _
  replace hS := Lib.hid (hS.out.next hbx)
  replace hP := Lib.hid (hP.out.next hbx)
  have hX := Lib.hid (SB.new hV3.out)
  have z3 := hB3.size
  clear hB3 q1 r1 l1 hbx hV3
  have q1 := hS.out.blk.cell
  have r1 := hS.out.blk.frozen
  have l1 := hS.out.blk.lt
  go_wp2_with fail
  refine (c3.out _ _ hS.out hP.out).mono ?_
  rintro e w4 ⟨rfl, hB4⟩
  replace hS := Lib.hid (hS.out.next hB4)
  replace hX := Lib.hid (hX.out.next hB4)
  replace hP := Lib.hid (hP.out.next hB4)
  clear hB4 q1 r1 l1
  have q1 := hS.out.blk.cell
  have r1 := hS.out.blk.frozen
  have l1 := hS.out.blk.lt
  have back : Hid (∀ W n, SB W w1.heap.size V1 e1 H1 g1 s → PB w W B L → Calls Try.prog 55 #[.agg #[.slice V1 s.values.length e1, .slice H1 s.heap.length g1], .slice B L.len n, .int .i64 f] W fun e w' => e = .returned (.int .i64 N) ∧ Below W.heap.size W w') := Lib.hid (fun W n => c3.out W n)
  by_cases k3 : K = 3
  · subst k3
    go_wp2_with fail
    refine (back.out _ _ hS.out hP.out).mono ?_
    rintro e w5 ⟨rfl, hB5⟩
    go_wp2_with fail
    go_ret
    exact ⟨rfl, bgo hP.out.bel hB5⟩
  have b3 : (K == 3) = false := by simpa using k3
  by_cases k4 : K = 4
  · subst k4
    go_wp2_with fail
    refine (back.out _ _ hS.out hP.out).mono ?_
    rintro e w5 ⟨rfl, hB5⟩
    go_wp2_with fail
    go_ret
    exact ⟨rfl, bgo hP.out.bel hB5⟩
  have b4 : (K == 4) = false := by simpa using k4
  by_cases kf : 150 < f
  · go_wp2_with fail
    refine (back.out _ _ hS.out hP.out).mono ?_
    rintro e w5 ⟨rfl, hB5⟩
    go_wp2_with fail
    go_ret
    exact ⟨rfl, bgo hP.out.bel hB5⟩
  obtain ⟨hN0, hNf⟩ := hle.out k4
  have h50 : 0 ≤ (n' : Int) % 50 ∧ (n' : Int) % 50 < 50 := by omega
  have hx1 := Lib.hid (hfl.out k4 k3 (f + (n' : Int) % 50) (by omega) (by omega))
  have hx2 := Lib.hid (hfl.out k4 k3 N (by omega) (by omega))
  have d1 := Lib.hid (fun W n hS hP => r_impl (w := w) (W := W) (x := w1.heap.size) (c := e1) (d := g1) (n := n) (V := V1) (H := H1) (B := B) (s := s) (L := L) (f + (n' : Int) % 50) hS hP)
  have d2 := Lib.hid (fun W n hS hP => r_impl (w := w) (W := W) (x := w1.heap.size) (c := e1) (d := g1) (n := n) (V := V1) (H := H1) (B := B) (s := s) (L := L) N hS hP)
  rw [hx1.out.1, hx1.out.2] at d1
  rw [hx2.out.1, hx2.out.2] at d2
  clear hx1 hx2 hfl hle k3 k4 back c1 c2 c3
  go_wp2_with fail
  refine (d1.out _ _ hS.out hP.out).mono ?_
  rintro e w5 ⟨V5, e5, H5, g5, rfl, hV5, hB5⟩
  have hbx : Below w4.heap.size w4 (w5.alloc (.cells #[.slice V5 X.values.length e5, .slice H5 X.heap.length g5] tSt)) := bbox hB5 _
  replace hS := Lib.hid (hS.out.next hbx)
  replace hX := Lib.hid (hX.out.next hbx)
  replace hP := Lib.hid (hP.out.next hbx)
  have hY := Lib.hid (SB.new hV5.out)
  clear hB5 q1 r1 l1 hbx hV5
  have q1 := hS.out.blk.cell
  have r1 := hS.out.blk.frozen
  have l1 := hS.out.blk.lt
  go_wp2_with fail
  refine (d2.out _ _ hS.out hP.out).mono ?_
  rintro e w6 ⟨V6, e6, H6, g6, rfl, hV6, hB6⟩
  have hbx : Below (w5.alloc (.cells #[.slice V5 X.values.length e5, .slice H5 X.heap.length g5] tSt)).heap.size (w5.alloc (.cells #[.slice V5 X.values.length e5, .slice H5 X.heap.length g5] tSt)) (w6.alloc (.cells #[.slice V6 X.values.length e6, .slice H6 X.heap.length g6] tSt)) := bbox hB6 _
  replace hX := Lib.hid (hX.out.next hbx)
  replace hY := Lib.hid (hY.out.next hbx)
  replace hP := Lib.hid (hP.out.next hbx)
  have hZ := Lib.hid (SB.new hV6.out)
  clear hB6 q1 r1 l1 hbx hV6 hS d1 d2
  have q2 := hX.out.blk.cell
  have r2 := hX.out.blk.frozen
  have l2 := hX.out.blk.lt
  have q3 := hY.out.blk.cell
  have r3 := hY.out.blk.frozen
  have l3 := hY.out.blk.lt
  have q4 := hZ.out.blk.cell
  have r4 := hZ.out.blk.frozen
  have l4 := hZ.out.blk.lt
  go_wp2_with fail
  refine (same_T rfl hX.out hY.out).mono ?_
  rintro e w7 ⟨rfl, hB7⟩
  replace hX := Lib.hid (hX.out.next hB7)
  replace hZ := Lib.hid (hZ.out.next hB7)
  replace hP := Lib.hid (hP.out.next hB7)
  clear hB7 q2 q3 q4 r2 r3 r4 l2 l3 l4 hY
  have q2 := hX.out.blk.cell
  have r2 := hX.out.blk.frozen
  have l2 := hX.out.blk.lt
  have q4 := hZ.out.blk.cell
  have r4 := hZ.out.blk.frozen
  have l4 := hZ.out.blk.lt
  go_wp2_with fail
  refine (same_T rfl hZ.out hX.out).mono ?_
  rintro e w8 ⟨rfl, hB8⟩
  go_wp2_with fail
  go_ret
  exact ⟨rfl, bgo hP.out.bel hB8⟩
--@
end Go.Proofs.Ytciabhddppdioaa
