/- Contracts: equal states (impl.StateSame). -/
import Derived.Test.YteogcababfenfaaMCells
set_option linter.unusedSimpArgs false
set_option linter.unusedVariables false
namespace Go.Proofs.Yteogcababfenfaa
open Go Go.RowKit Go.Proofs
attribute [local go_sem ↓] Go.wp_at_zero Go.wp_at_succ
--@ impl.sameInts
set_option maxHeartbeats 1600000 in
theorem c_impl_sameInts {lo hi lo' hi' : Nat} (A A' : Option Addr) (c c' : Nat) (fs gs : List Int) (w : World) (h : IntsV w lo hi A fs) (h' : IntsV w lo' hi' A' gs) : Calls Try.prog 59 #[.slice A fs.length c, .slice A' gs.length c'] w fun e w' => e = .returned (.bool (decide (fs = gs))) ∧ w = w' := by
  have hl := h.le
  have hl' := h'.le
  have H := Lib.hid h
  have H' := Lib.hid h'
  clear h h'
  by_cases hn : fs.length = gs.length
  · have hn' : ((fs.length : Int) != (gs.length : Int)) = false := by simp [hn]
    have HN := Lib.hid hn
    clear hn
    go_enter Try.func59, Try.ntmps59
    go_wp2_with fail
    clear hn'
    go_loop [14] (fun i => ∃ k : Nat, k ≤ fs.length ∧ i = .int .i64 k ∧ Hid (decide (fs = gs) = decide (fs.drop k = gs.drop k))) (fun i => fs.length - (intOf i).toNat)
    case atStart => exact ⟨0, Nat.zero_le _, rfl, by show _ = _; simp⟩
    case round =>
      obtain ⟨k, hk, rfl, HA⟩ := hrel
      by_cases hlt : k < fs.length
      · have hlt' : k < gs.length := by have := HN.out; omega
        obtain ⟨b, off, rfl, g0⟩ := H.out.at hlt
        obtain ⟨b', off', rfl, j0⟩ := H'.out.at hlt'
        have HD := Lib.hid (drop_eq fs gs k hlt hlt')
        have hki : (k : Int) < (fs.length : Int) := by omega
        have hki' : (k : Int) < (gs.length : Int) := by omega
        obtain ⟨f, hf⟩ : ∃ f, f = fs[k] := ⟨_, rfl⟩
        obtain ⟨g, hg⟩ : ∃ g, g = gs[k] := ⟨_, rfl⟩
        rw [← hf] at g0 HD
        rw [← hg] at j0 HD
        clear hf hg
        by_cases f1 : f = g
        · have E : Hid (decide (f = g) = true) := by show _ = _; rw [decide_eq_true_eq]; exact f1
          rw [f1] at g0
          clear f1
          go_wp2_with fail
          go_round
          case rel => exact ⟨k + 1, by omega, by go_num, by show _ = _; rw [HA.out, HD.out, E.out]; rfl⟩
          case measure => simp [intOf]; omega
        · have E : Hid (decide (f = g) = false) := by show _ = _; rw [decide_eq_false_iff_not]; exact f1
          have e1 : (f != g) = true := by simpa using f1
          clear f1
          go_wp2_with fail
          go_ret
          exact ⟨ret_bool (by rw [HA.out, HD.out, E.out]; rfl), rfl⟩
      · obtain rfl : k = fs.length := by omega
        have E : Hid (decide (fs = gs) = true) := by show _ = _; rw [HA.out, List.drop_length, HN.out, List.drop_length]; simp
        go_wp2_with fail
        go_ret
        exact ⟨ret_bool E.out.symm, rfl⟩
  · have hn' : ((fs.length : Int) != (gs.length : Int)) = true := by simp; omega
    have E : Hid (decide (fs = gs) = false) := by show _ = _; rw [decide_eq_false_iff_not]; exact fun e => hn (by rw [e])
    clear hn
    go_enter Try.func59, Try.ntmps59
    go_wp2_with fail
    go_ret
    exact ⟨ret_bool E.out.symm, rfl⟩

--@ impl.StateSame
set_option maxHeartbeats 1600000 in
theorem c_impl_StateSameT {lo hi lo' hi' : Nat} (v v' : Value) (s : Ste) (w : World) (h : StateV w lo hi v s) (h' : StateV w lo' hi' v' s) : Calls Try.prog 18 #[v, v'] w fun e w' => e = .returned (.bool true) ∧ Below w.heap.size w w' := by
  obtain ⟨A1, c1, A2, c2, rfl, h1, h2⟩ := h
  obtain ⟨A3, c3, A4, c4, rfl, h3, h4⟩ := h'
  have H1 := Lib.hid h1
  have H2 := Lib.hid h2
  have H3 := Lib.hid h3
  have H4 := Lib.hid h4
  clear h1 h2 h3 h4
  go_enter Try.func18, Try.ntmps18
  go_wp2_with fail
  refine (c_impl_sameInts A1 A3 c1 c3 s.values s.values _ (H1.out.below bel) (H3.out.below bel)).mono ?_
  rintro e w1 ⟨rfl, rfl⟩
  rw [decide_eq_true (Eq.refl s.values)]
  go_wp2_with fail
  refine (c_impl_sameInts A2 A4 c2 c4 s.heap s.heap _ (H2.out.below bel) (H4.out.below bel)).mono ?_
  rintro e w2 ⟨rfl, rfl⟩
  rw [decide_eq_true (Eq.refl s.heap)]
  go_wp2_with fail
  go_ret
  exact ⟨rfl, bel⟩
end Go.Proofs.Yteogcababfenfaa
