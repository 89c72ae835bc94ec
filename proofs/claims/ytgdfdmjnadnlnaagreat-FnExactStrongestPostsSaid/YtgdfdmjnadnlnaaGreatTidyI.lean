/- Tidying: impl's contracts. -/
import Derived.Test.YtgdfdmjnadnlnaaGreatMCmdF
import Derived.Laws.BitsAllLaws
set_option linter.unusedSimpArgs false
set_option linter.unusedVariables false
set_option maxRecDepth 100000
set_option maxHeartbeats 25600000
namespace Go.Proofs.YtgdfdmjnadnlnaaGreat
section
open Go Go.RowKit Go.Proofs
attribute [local go_sem ↓] Go.wp_at_zero Go.wp_at_succ
--@ impl.replaceTerm
theorem c_replaceTerm (t x y : Int) (w : World) : Calls Tryz.prog 249 #[.int .i64 t, .int .i64 x, .int .i64 y] w fun e w' => e = .returned (.int .i64 (swp x y t)) ∧ w = w' := by
  by_cases h : t = x
  · have hb : (t == x) = true := by simpa using h
    have HS : aJ (swp x y t = y) := by simp [aJ, swp, h]
    clear h;(go_enter Tryz.func249, Tryz.ntmps249);go_wp2;go_ret;exact ⟨ret_int HS.o.symm, rfl⟩
  · have hb : (t == x) = false := by simpa using h
    have HS : aJ (swp x y t = t) := by simp [aJ, swp, h]
    clear h;(go_enter Tryz.func249, Tryz.ntmps249);go_wp2;go_ret;exact ⟨ret_int HS.o.symm, rfl⟩

--@ impl.isLogicalVar
theorem c_isLogicalVar (n : Int) (w : World) : Calls Tryz.prog 265 #[.int .i64 n] w fun e w' => e = .returned (.bool (logB n)) ∧ w = w' := by
  by_cases h : 4 < n
  · by_cases h2 : n ≤ 8
    all_goals
      (go_enter Tryz.func265, Tryz.ntmps265);go_wp2;go_ret;exact ⟨by simp [logB, h, h2], rfl⟩
  · go_enter Tryz.func265, Tryz.ntmps265
    go_wp2;go_ret;exact ⟨by simp [logB]; omega, rfl⟩

--@ (impl.termSet).logical
theorem logS_lt {S : Nat} (h : S < 512) : logS S < 512 := by
  apply Nat.lt_pow_two_of_testBit (n := 9);intro i hi;rw [logS_bit];have : S.testBit i = false := Nat.testBit_lt_two_pow (Nat.lt_of_lt_of_le h (Nat.pow_le_pow_right (n := 2) (by omega) hi));simp [this]
theorem c_impl_logical (S : Nat) (w : World) (hS : S < 512) : Calls Tryz.prog 67 #[.int .u16 S] w fun e w' => e = .returned (.int .u16 (logS S)) ∧ w = w' := by
  (go_enter Tryz.func67, Tryz.ntmps67);go_wp2;go_ret;refine ⟨?_, rfl⟩
  have e : ((logS S : Nat) : Int) = (S : Int) / 32 * 32 := by
    unfold logS;rw [Nat.shiftRight_eq_div_pow, Nat.shiftLeft_eq]
    push_cast
    rfl
  show Ending.returned (.int .u16 ((S : Int) / 32 * 32)) = _;rw [e]

--@ impl.firstSubstitution
theorem c_impl_tHasL (S : Nat) (t : Int) (w : World) (hS : S < 512) (ht : logB t = true) : Calls Tryz.prog 142 #[.int .u16 S, .int .i64 t] w fun e w' => e = .returned (.bool (S.testBit t.toNat)) ∧ w = w' := by
  have h : isTermB t = true := by simp [logB] at ht; simp [isTermB]; omega
  refine (c_impl_tHas S t w hS).mono ?_;rintro e w' ⟨rfl, rfl⟩;rw [h]; exact ⟨rfl, rfl⟩
theorem c_impl_firstSub {lo hi : Nat} (A : Option Addr) (c K : Nat) (fs : List Fct) (w : World) (h : FactsV w lo hi A fs) (hK : K < 512) :
    Calls Tryz.prog 238 #[.slice A fs.length c, .int .u16 K] w fun e w' => e = .returned (.tuple #[.agg #[.int .i64 ((subStep K fs).getD (0, 0)).1, .int .i64 ((subStep K fs).getD (0, 0)).2], .bool (subStep K fs).isSome]) ∧ Below w.heap.size w w' := by
  have hl := h.le;have HK := ax hK;clear hK;(go_enter Tryz.func238, Tryz.ntmps238);go_wp2
  go_loopw [10] (fun i wr => ∃ k : Nat, k ≤ fs.length ∧ i = .int .i64 k ∧ aJ (subStep K fs = subStep K (fs.drop k)) ∧ Blk wr w.heap.size 265 #[.int .i64 0, .int .i64 0] ∧ Below w.heap.size w wr) (fun i _ => fs.length - (intOf i).toNat)
  case atStart => exact ⟨0, Nat.zero_le _, rfl, by simp [aJ], blks, bel⟩
  case round =>
    obtain ⟨k, hk, rfl, HA, k0, hB⟩ := hrel;have qk0 := k0.cell;have rk0 := k0.frozen;have hk0 := k0.lt;by_cases hlt : k < fs.length
    · obtain ⟨b, off, rfl, c0, c1, c2⟩ := (h.bz hB).at hlt
      have HD := ax (subStep_cons K fs k hlt);cases he : fs[k].eq
      · rw [he] at c0
        have HS : aJ (subOf K fs[k] = none) := by simp [aJ, subOf, he]
        clear he;(go_wp2_with fail)
        go_round
        case rel => exact ⟨k + 1, by omega, by go_num, by show _ = _; rw [HA.o, HD.o, HS.o]; rfl, k0.alloc _, bel⟩
        case measure => simp [intOf]; omega
      rw [he] at c0;by_cases hab : fs[k].a = fs[k].b
      · have t0 : (fs[k].a == fs[k].b) = true := by simpa using hab
        have HS : aJ (subOf K fs[k] = none) := by simp [aJ, subOf, hab]
        clear he hab;(go_wp2_with fail)
        go_round
        case rel => exact ⟨k + 1, by omega, by go_num, by show _ = _; rw [HA.o, HD.o, HS.o]; rfl, k0.alloc _, bel⟩
        case measure => simp [intOf]; omega
      have t0 : (fs[k].a == fs[k].b) = false := by simpa using hab
      cases hfa : free K fs[k].a
      case' true =>
        have HS : aJ (subOf K fs[k] = some (fs[k].a, fs[k].b)) := by simp [aJ, subOf, he, hab, hfa]
        have la : logB fs[k].a = true := by simp only [free, Bool.and_eq_true] at hfa; exact hfa.1
        have ka : K.testBit fs[k].a.toNat = false := by simp only [free, Bool.and_eq_true, Bool.not_eq_true'] at hfa; exact hfa.2
        clear he hab hfa;(go_wp2_with (first | (go_at_call 265; refine (c_isLogicalVar _ _).mono ?_; rintro e w' ⟨rfl, rfl⟩) | (go_at_call 142; refine (c_impl_tHasL _ _ _ HK.o (by assumption)).mono ?_; rintro e w' ⟨rfl, rfl⟩)));refine bodyPost_ret (v := .tuple #[.agg #[.int .i64 fs[k].a, .int .i64 fs[k].b], .bool true]) (by simp [results, Tryz.results238, go_sem, qk0, hk0]) rfl ⟨?_, bel⟩;rw [HA.o, HD.o, HS.o]; rfl
      case' false =>
        cases hfb : free K fs[k].b
        case' true =>
          have HS : aJ (subOf K fs[k] = some (fs[k].b, fs[k].a)) := by simp [aJ, subOf, he, hab, hfa, hfb]
          have lb : logB fs[k].b = true := by simp only [free, Bool.and_eq_true] at hfb; exact hfb.1
          have kb : K.testBit fs[k].b.toNat = false := by simp only [free, Bool.and_eq_true, Bool.not_eq_true'] at hfb; exact hfb.2
        case' false =>
          have HS : aJ (subOf K fs[k] = none) := by simp [aJ, subOf, hfa, hfb]
        all_goals
          cases la : logB fs[k].a
          all_goals
            (try have ka : K.testBit fs[k].a.toNat = true := by simp [free, la] at hfa; exact hfa);(try cases lb : logB fs[k].b)
            all_goals try have kb : K.testBit fs[k].b.toNat = true := by simp [free, lb] at hfb; exact hfb
        all_goals
          clear he hab hfa hfb;(go_wp2_with (first | (go_at_call 265; refine (c_isLogicalVar _ _).mono ?_; rintro e w' ⟨rfl, rfl⟩) | (go_at_call 142; refine (c_impl_tHasL _ _ _ HK.o (by assumption)).mono ?_; rintro e w' ⟨rfl, rfl⟩)))
          first
            | (refine bodyPost_ret (v := .tuple #[.agg #[.int .i64 fs[k].b, .int .i64 fs[k].a], .bool true]) (by simp [results, Tryz.results238, go_sem, qk0, hk0]) rfl ⟨?_, bel⟩
               rw [HA.o, HD.o, HS.o]; rfl)
            | (go_round
               case rel => exact ⟨k + 1, by omega, by go_num, by show _ = _; rw [HA.o, HD.o, HS.o]; rfl, k0.alloc _, bel⟩
               case measure => simp [intOf]; omega)
    · obtain rfl : k = fs.length := by omega
      (go_wp2_with fail);have e : subStep K fs = none := by rw [HA.o, List.drop_length]; rfl
      refine bodyPost_ret (v := .tuple #[.agg #[.int .i64 0, .int .i64 0], .bool false]) (by simp [results, Tryz.results238, go_sem, qk0]) rfl ⟨?_, bel⟩;rw [e]; rfl

end
end Go.Proofs.YtgdfdmjnadnlnaaGreat
