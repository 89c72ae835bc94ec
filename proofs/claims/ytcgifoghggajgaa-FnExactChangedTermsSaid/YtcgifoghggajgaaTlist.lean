/- Contracts: the list of a set of terms. -/
import Derived.Test.YtcgifoghggajgaaSet
import Derived.Test.YtcgifoghggajgaaApp
import Derived.BigQuiet
import Derived.Deep.RegionHeld3
import Derived.Deep.QuietTactic
set_option linter.unusedSimpArgs false
set_option linter.unusedVariables false
namespace Go.Proofs.Ytcgifoghggajgaa
open Go Go.RowKit Go.Proofs

def tlistL (S k : Nat) : List Int := ((List.range k).filter fun n => S.testBit n).map fun n : Nat => (n : Int)
theorem tlistL_succ (S k : Nat) : tlistL S (k + 1) = tlistL S k ++ if S.testBit k then [(k : Int)] else [] := by
  unfold tlistL
  rw [List.range_succ, List.filter_append, List.map_append]
  cases h : S.testBit k <;> simp [h]
theorem tlistL_length (S k : Nat) : (tlistL S k).length ≤ k := by
  unfold tlistL
  rw [List.length_map]
  exact Nat.le_trans (List.length_filter_le _ _) (by simp)
--@ (impl.termSet).list
set_option maxHeartbeats 1600000 in
theorem c_impl_termList (S : Nat) (w : World) (hS : S < 512) : Calls Try.prog 79 #[.int .u16 S] w fun e w' => ∃ r, e = .returned r ∧ IntsO w' w.heap.size r (tlistL S 9) ∧ Below w.heap.size w w' := by
  have HS := Lib.hid hS
  clear hS
  go_enter Try.func79, Try.ntmps79
  go_wp2
  go_loopw [3, 4] (fun o i wr => ∃ (k : Nat) (A : Option Addr) (c : Nat), k ≤ 9 ∧ i = .int .i64 k ∧ o = .slice A (tlistL S k).length c ∧ IntsO wr w.heap.size (.slice A (tlistL S k).length c) (tlistL S k) ∧ Below w.heap.size w wr) (fun _ i _ => 9 - (intOf i).toNat)
  case atStart => exact ⟨0, none, 0, by omega, rfl, rfl, IntsO.nil _ _, bel⟩
  case round =>
    obtain ⟨k, A, c, hk, rfl, rfl, hO, hB⟩ := hrel
    have hlen := tlistL_length S k
    by_cases h8 : k < 9
    · have hv : isTermB (k : Int) = true := isTermB_iff.2 (by omega)
      have HC := Lib.hid (tlistL_succ S k)
      have hki : (k : Int) ≤ 8 := by omega
      cases ht : S.testBit k
      · go_wp2_with fail
        refine (c_impl_tHas S _ _ HS.out).mono ?_
        rintro e w' ⟨rfl, rfl⟩
        rw [hv, Int.toNat_natCast, ht]
        go_wp2_with fail
        go_round
        case rel =>
          have e : tlistL S (k + 1) = tlistL S k := by rw [HC.out, ht]; simp
          exact ⟨k + 1, A, c, by omega, by go_num, by rw [e], by rw [e]; exact hO, hB⟩
        case measure => simp [intOf]; omega
      · go_wp2_with fail
        refine (c_impl_tHas S _ _ HS.out).mono ?_
        rintro e w' ⟨rfl, rfl⟩
        rw [hv, Int.toNat_natCast, ht]
        go_wp2_with (at_builtin; refine appI rfl _ _ rfl (v := .slice A (tlistL S k).length c) rfl (hO.abv (Abv.alloc (Abv.refl 0 _) _) (Nat.zero_le _)) wr.heap.size _ rfl (cell_box wr _ _) (by omega) (by simp; have := hB.size; omega) ?_; intro g' c' w2 hO2 hg2 hB3)
        go_round
        case rel =>
          have e : tlistL S (k + 1) = tlistL S k ++ [(k : Int)] := by rw [HC.out, ht]; simp
          exact ⟨k + 1, some ⟨g', 0, none⟩, c', by omega, by go_num, by rw [e, List.length_append]; rfl, by rw [e]; simpa using hO2, Below.trans (bbox hB _) hB3⟩
        case measure => simp [intOf]; omega
    · obtain rfl : k = 9 := by omega
      go_wp2
      go_ret
      exact ⟨_, rfl, hO, hB⟩
--@
end Go.Proofs.Ytcgifoghggajgaa
