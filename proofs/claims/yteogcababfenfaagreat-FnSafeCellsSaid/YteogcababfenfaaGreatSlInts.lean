/- Contracts: the laws' comparison of two lists of ints. -/
import Derived.Test.YteogcababfenfaaGreatMCmd
import Derived.BigQuiet
import Derived.Deep.QuietTactic
set_option linter.unusedSimpArgs false
set_option linter.unusedVariables false
namespace Go.Proofs.YteogcababfenfaaGreat
open Go Go.RowKit Go.Proofs

--@ laws.slInts
set_option maxRecDepth 100000 in
set_option maxHeartbeats 1600000 in
theorem c_slInts {lo hi lo' hi' : Nat} (A A' : Option Addr) (c c' : Nat) (fs gs : List Int) (w : World) (h : IntsV w lo hi A fs) (h' : IntsV w lo' hi' A' gs) : Calls Tryz.prog 9 #[.slice A fs.length c, .slice A' gs.length c'] w fun e w' => e = .returned (.bool (decide (fs = gs))) ∧ Below w.heap.size w w' := by
  have hl := h.le
  have hl' := h'.le
  have H := Lib.hid h
  have H' := Lib.hid h'
  clear h h'
  by_cases hn : fs.length = gs.length
  · have hn' : ((fs.length : Int) != (gs.length : Int)) = false := by simp [hn]
    have HN := Lib.hid hn
    clear hn
    go_enter Tryz.func9, Tryz.ntmps9
    go_wp2_with fail
    clear hn'
    go_loopw [5] (fun i wr => ∃ k : Nat, k ≤ fs.length ∧ i = .int .i64 k ∧ Hid (decide (fs = gs) = decide (fs.drop k = gs.drop k)) ∧ Hid (Below w.heap.size w wr)) (fun i _ => fs.length - (intOf i).toNat)
    case atStart => exact ⟨0, Nat.zero_le _, rfl, by show _ = _; simp, Below.refl _ _⟩
    case round =>
      obtain ⟨k, hk, rfl, HA, HB⟩ := hrel
      by_cases hlt : k < fs.length
      · have hlt' : k < gs.length := by have := HN.out; omega
        obtain ⟨b, off, rfl, g0⟩ := (H.out.below HB.out).at hlt
        obtain ⟨b', off', rfl, j0⟩ := (H'.out.below HB.out).at hlt'
        have HD := Lib.hid (drop_eq fs gs k hlt hlt')
        have hki : (k : Int) < (fs.length : Int) := by omega
        have hki' : (k : Int) < (gs.length : Int) := by omega
        obtain ⟨f, hf⟩ : ∃ f, f = fs[k] := ⟨_, rfl⟩
        obtain ⟨g, hg⟩ : ∃ g, g = gs[k] := ⟨_, rfl⟩
        rw [← hf] at g0 HD
        rw [← hg] at j0 HD
        clear hf hg
        by_cases f1 : f = g
        · have E : Hid (decide (f = g) = true) := by show _ = _; rw [decide_eq_true_eq]; exact f1
          rw [f1] at g0
          clear f1
          go_wp2_with fail
          go_quiet (fail)
          go_wp2_with fail
          go_round
          case rel => exact ⟨k + 1, by omega, by go_num, by show _ = _; rw [HA.out, HD.out, E.out]; rfl, below_drewN HB.out _⟩
          case measure => simp [intOf]; omega
        · have E : Hid (decide (f = g) = false) := by show _ = _; rw [decide_eq_false_iff_not]; exact f1
          have e1 : (f != g) = true := by simpa using f1
          clear f1
          go_wp2_with fail
          go_quiet (fail)
          go_wp2_with fail
          go_ret
          exact ⟨ret_bool (by rw [HA.out, HD.out, E.out]; rfl), below_drewN HB.out _⟩
      · obtain rfl : k = fs.length := by omega
        have E : Hid (decide (fs = gs) = true) := by show _ = _; rw [HA.out, List.drop_length, HN.out, List.drop_length]; simp
        go_wp2_with fail
        go_ret
        exact ⟨ret_bool E.out.symm, HB.out⟩
  · have hn' : ((fs.length : Int) != (gs.length : Int)) = true := by simp; omega
    have E : Hid (decide (fs = gs) = false) := by show _ = _; rw [decide_eq_false_iff_not]; exact fun e => hn (by rw [e])
    clear hn
    go_enter Tryz.func9, Tryz.ntmps9
    go_wp2_with fail
    go_ret
    exact ⟨ret_bool E.out.symm, Below.refl _ _⟩
end Go.Proofs.YteogcababfenfaaGreat
