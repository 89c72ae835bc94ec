/- Contracts: the laws' search of a list. -/
import Derived.Test.YteogcababfenfaaGreatMCmd
import Derived.BigQuiet
import Derived.Deep.QuietTactic
set_option linter.unusedSimpArgs false
set_option linter.unusedVariables false
namespace Go.Proofs.YteogcababfenfaaGreat
open Go Go.RowKit Go.Proofs
--@ laws.slHas
set_option maxRecDepth 100000 in
set_option maxHeartbeats 1600000 in
theorem c_slHas {lo hi : Nat} (A : Option Addr) (c : Nat) (fs : List Int) (n : Int) (w : World) (h : IntsV w lo hi A fs) : Calls Tryz.prog 13 #[.slice A fs.length c, .int .i64 n] w fun e w' => e = .returned (.bool (decide (n ∈ fs))) ∧ Below w.heap.size w w' := by
  have H := Lib.hid h
  have HL := Lib.hid h.le
  clear h
  go_enter Tryz.func13, Tryz.ntmps13
  go_wp2_with fail
  go_loopw [5] (fun i wr => ∃ k : Nat, k ≤ fs.length ∧ i = .int .i64 k ∧ Hid (decide (n ∈ fs) = decide (n ∈ fs.drop k)) ∧ Hid (Below w.heap.size w wr)) (fun i _ => fs.length - (intOf i).toNat)
  case atStart => exact ⟨0, Nat.zero_le _, rfl, by show _ = _; simp, Below.refl _ _⟩
  case round =>
    obtain ⟨k, hk, rfl, HA, HB⟩ := hrel
    have hl := HL.out
    by_cases hlt : k < fs.length
    · obtain ⟨b, off, rfl, g0⟩ := (H.out.below HB.out).at hlt
      have HD : Hid (decide (n ∈ fs.drop k) = (decide (fs[k] = n) || decide (n ∈ fs.drop (k + 1)))) := by
        show _ = _
        rw [List.drop_eq_getElem_cons hlt, ← Bool.decide_or, decide_eq_decide, List.mem_cons]
        constructor
        · rintro (h | h)
          · exact Or.inl h.symm
          · exact Or.inr h
        · rintro (h | h)
          · exact Or.inl h.symm
          · exact Or.inr h
      have hki : (k : Int) < (fs.length : Int) := by omega
      obtain ⟨f, hf⟩ : ∃ f, f = fs[k] := ⟨_, rfl⟩
      rw [← hf] at g0 HD
      clear hf
      by_cases f1 : f = n
      · have E : Hid (decide (f = n) = true) := by show _ = _; rw [decide_eq_true_eq]; exact f1
        rw [f1] at g0
        clear f1
        go_wp2_with fail
        go_ret
        exact ⟨ret_bool (by rw [HA.out, HD.out, E.out]; rfl), HB.out⟩
      · have E : Hid (decide (f = n) = false) := by show _ = _; rw [decide_eq_false_iff_not]; exact f1
        have e1 : (f == n) = false := by simpa using f1
        clear f1
        go_wp2_with fail
        go_round
        case rel => exact ⟨k + 1, by omega, by go_num, by show _ = _; rw [HA.out, HD.out, E.out]; rfl, HB.out⟩
        case measure => simp [intOf]; omega
    · obtain rfl : k = fs.length := by omega
      have E : Hid (decide (n ∈ fs) = false) := by show _ = _; rw [HA.out, List.drop_length]; simp
      go_wp2_with fail
      go_ret
      exact ⟨ret_bool E.out.symm, HB.out⟩
end Go.Proofs.YteogcababfenfaaGreat
