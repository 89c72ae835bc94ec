/- Tidying: the spec's contracts. -/
import Derived.Test.YtgdfdmjnadnlnaaGreatMFrame
set_option linter.unusedSimpArgs false
set_option linter.unusedVariables false
set_option maxRecDepth 100000
set_option maxHeartbeats 25600000
namespace Go.Proofs.YtgdfdmjnadnlnaaGreat
section
open Go Go.RowKit Go.Proofs
attribute [local go_sem ↓] Go.wp_at_zero Go.wp_at_succ
--@ spec.l10Known
theorem c_spec_l10Known {lo hi lo' hi' : Nat} (v : Value) (a : Asn) (B : Option Addr) (c K : Nat) (w : World) (h : AsnV w lo hi v a) (h' : BoolsV w lo' hi' B (flagsOf K)) (hv : a.valid = true) :
    Calls Tryz.prog 236 #[v, .slice B 9 c] w fun e w' => e = .returned (.tuple #[.int .i64 ((subStep K a.facts).getD (0, 0)).1, .int .i64 ((subStep K a.facts).getD (0, 0)).2, .bool (subStep K a.facts).isSome]) ∧ Below w.heap.size w w' := by
  obtain ⟨A1, c1, A2, c2, rfl, h1, h2⟩ := h;have hl := h1.le;have HV := ax hv;clear hv;obtain ⟨pb, po, rfl, hpb⟩ := flags_addr h';(go_enter Tryz.func236, Tryz.ntmps236);go_wp2
  go_loopw [7] (fun i wr => ∃ k : Nat, k ≤ a.facts.length ∧ i = .int .i64 k ∧ aJ (subStep K a.facts = subStep K (a.facts.drop k)) ∧ Blk wr w.heap.size 36 #[.slice A1 a.facts.length c1, .slice A2 a.atoms.length c2] ∧ Below w.heap.size w wr) (fun i _ => a.facts.length - (intOf i).toNat)
  case atStart => exact ⟨0, Nat.zero_le _, rfl, by simp [aJ], blks, bel⟩
  case round =>
    obtain ⟨k, hk, rfl, HA, k0, hB⟩ := hrel;(replace qk0 := k0.z);have hf := h'.bz hB;have hpb2 : pb < wr.heap.size := Nat.lt_of_lt_of_le hpb hB.size;by_cases hlt : k < a.facts.length
    · obtain ⟨b, off, rfl, hbl⟩ := h1.blt hlt
      obtain ⟨c0, c1', c2'⟩ := (h1.bz hB).cl hlt;have HD := ax (subStep_cons K a.facts k hlt)
      have hfv : a.facts[k].valid = true := by
        have hvb := HV.o;simp only [Asn.valid, factsValid, Bool.and_eq_true] at hvb;exact List.all_eq_true.1 hvb.1.2 _ (List.getElem_mem hlt)
      simp only [Fct.valid, Bool.and_eq_true] at hfv;have b1 := isTermB_iff.1 hfv.1;have b2 := isTermB_iff.1 hfv.2;clear hfv;obtain ⟨m1, e1⟩ := Int.eq_ofNat_of_zero_le b1.1;obtain ⟨m2, e2⟩ := Int.eq_ofNat_of_zero_le b2.1;have E1 := ax e1;have E2 := ax e2;rw [e1] at c1';rw [e2] at c2';have m18 : (m1 : Int) < 9 := by omega
      have m28 : (m2 : Int) < 9 := by omega
      have f1 := flags_at hf (m := m1) (by omega);have f2 := flags_at hf (m := m2) (by omega)
      have hq : subOf K a.facts[k] = if a.facts[k].eq && !((m1 : Int) == m2) then (if decide (4 < m1) && !K.testBit m1 then some ((m1 : Int), (m2 : Int)) else if decide (4 < m2) && !K.testBit m2 then some ((m2 : Int), (m1 : Int)) else none) else none := by
        have x1 : free K (m1 : Int) = (decide (4 < m1) && !K.testBit m1) := by
          unfold free logB; rw [Int.toNat_natCast]; congr 1; rw [decide_eq_decide]; omega
        have x2 : free K (m2 : Int) = (decide (4 < m2) && !K.testBit m2) := by
          unfold free logB; rw [Int.toNat_natCast]; congr 1; rw [decide_eq_decide]; omega
        rw [subOf, e1, e2, x1, x2]
      have HQ := ax hq;clear e1 e2 b1 b2 hq hf;cases he : a.facts[k].eq
      · rw [he] at c0
        have HS : aJ (subOf K a.facts[k] = none) := by show _ = _; rw [HQ.o, he]; rfl
        clear he;(go_wp2_with fail)
        go_round
        case rel => exact ⟨k + 1, by omega, by go_num, by show _ = _; rw [HA.o, HD.o, HS.o]; rfl, k0.alloc _, bel⟩
        case measure => simp [intOf]; omega
      rw [he] at c0;by_cases hab : m1 = m2
      · have HS : aJ (subOf K a.facts[k] = none) := by show _ = _; rw [HQ.o, he, hab]; simp
        have t0 : ((m1 : Int) == (m2 : Int)) = true := by simp [hab]
        subst hab;clear he;(go_wp2_with fail)
        go_round
        case rel => exact ⟨k + 1, by omega, by go_num, by show _ = _; rw [HA.o, HD.o, HS.o]; rfl, k0.alloc _, bel⟩
        case measure => simp [intOf]; omega
      have t0 : ((m1 : Int) == (m2 : Int)) = false := by simp; omega
      have habi : ¬ ((m1 : Int) = (m2 : Int)) := by omega
      by_cases la : 4 < m1
      all_goals
        by_cases lb : 4 < m2
        all_goals
          cases ka : K.testBit m1
          all_goals
            cases kb : K.testBit m2
            all_goals
              have HS := HQ.o;simp [he, habi, la, lb, ka, kb] at HS;replace HS := ax HS;rw [ka] at f1;rw [kb] at f2;clear ka kb
      all_goals clear he hab habi
      all_goals
        go_wp2_with fail
        first
          | (go_round
             case rel => exact ⟨k + 1, by omega, by go_num, by show _ = _; rw [HA.o, HD.o, HS.o]; rfl, k0.alloc _, bel⟩
             case measure => simp [intOf]; omega)
          | (go_quiet (fail)
             go_wp2_with fail
             go_ret3
             refine ⟨by rw [HA.o, HD.o, HS.o]; rfl, below_drewN bel _⟩)
    · obtain rfl : k = a.facts.length := by omega
      go_wp2_with fail
      go_ret3
      have e : subStep K a.facts = none := by rw [HA.o, List.drop_length]; rfl
      exact ⟨by rw [e]; rfl, bel⟩
end
end Go.Proofs.YtgdfdmjnadnlnaaGreat
