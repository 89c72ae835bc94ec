/- Contracts: states, cells, truth. -/
import Derived.Test.YtcgifoghggajgaaOwn
import Derived.Test.YtcgifoghggajgaaVal
import Derived.Test.YtcgifoghggajgaaDefS
set_option linter.unusedSimpArgs false
set_option linter.unusedVariables false
namespace Go.Proofs.Ytcgifoghggajgaa
open Go Go.RowKit Go.Proofs

--@ impl.isAddr
set_option maxHeartbeats 400000 in
theorem c_impl_isAddr (n : Int) (w : World) : Calls Try.prog 227 #[.int .i64 n] w fun e w' => e = .returned (.bool (addrB n)) ∧ w = w' := by
  by_cases h : 1 ≤ n
  · by_cases h2 : n ≤ 8
    all_goals
      go_enter Try.func227, Try.ntmps227
      go_wp2
      go_ret
      exact ⟨by simp [addrB, h, h2], rfl⟩
  · go_enter Try.func227, Try.ntmps227
    go_wp2
    go_ret
    exact ⟨by simp [addrB]; omega, rfl⟩

--@ impl.isValue
set_option maxHeartbeats 400000 in
theorem c_impl_isValue (n : Int) (w : World) : Calls Try.prog 224 #[.int .i64 n] w fun e w' => e = .returned (.bool (valB n)) ∧ w = w' := by
  by_cases h : 0 ≤ n
  · by_cases h2 : n ≤ 8
    all_goals
      go_enter Try.func224, Try.ntmps224
      go_wp2
      go_ret
      exact ⟨by simp [valB, h, h2], rfl⟩
  · go_enter Try.func224, Try.ntmps224
    go_wp2
    go_ret
    exact ⟨by simp [valB]; omega, rfl⟩

--@ spec.l2Addr
set_option maxHeartbeats 400000 in
theorem c_spec_l2Addr (n : Int) (w : World) : Calls Try.prog 228 #[.int .i64 n] w fun e w' => e = .returned (.bool (valB n)) ∧ w = w' := by
  by_cases h : 0 ≤ n
  · by_cases h2 : n ≤ 8
    all_goals
      go_enter Try.func228, Try.ntmps228
      go_wp2
      go_ret
      exact ⟨by simp [valB, h, h2], rfl⟩
  · go_enter Try.func228, Try.ntmps228
    go_wp2
    go_ret
    exact ⟨by simp [valB]; omega, rfl⟩

--@ impl.State.content
set_option maxHeartbeats 400000 in
theorem c_impl_content {lo hi : Nat} (v : Value) (s : Ste) (a : Int) (w : World) (h : StateV w lo hi v s) (h8 : s.heap.length = 8) : Calls Try.prog 226 #[v, .int .i64 a] w fun e w' => e = .returned (.int .i64 (cont s.heap a)) ∧ Below w.heap.size w w' := by
  obtain ⟨A1, c1, A2, c2, rfl, h1, h2⟩ := h
  cases ha : addrB a
  · go_enter Try.func226, Try.ntmps226
    go_wp2_with (go_at_call 227; refine (c_impl_isAddr _ _).mono ?_; rintro e w' ⟨rfl, rfl⟩)
    go_ret
    exact ⟨ret_int (by simp [cont, ha]), bel⟩
  · have ha' := ha
    simp only [addrB, decide_eq_true_eq] at ha'
    obtain ⟨g1, g2⟩ := ha'
    obtain ⟨n, rfl⟩ : ∃ n : Nat, a = n + 1 := ⟨(a - 1).toNat, by omega⟩
    have hn : n < s.heap.length := by omega
    have h0 : ((n : Int) + 1 - 1) = (n : Int) := by omega
    obtain ⟨b, off, rfl, c0⟩ := h2.at hn
    have hbl := block_lt_of_cell c0
    have H8 := Lib.hid h8
    have hlt : (n : Int) < (s.heap.length : Int) := by omega
    clear h8 g1
    have hr : cont s.heap ((n : Int) + 1) = s.heap[n] := by simp [cont, ha, h0, List.getElem?_eq_getElem hn]
    have HR := Lib.hid hr
    clear hr
    go_enter Try.func226, Try.ntmps226
    go_wp2_with (go_at_call 227; refine (c_impl_isAddr _ _).mono ?_; rintro e w' ⟨rfl, rfl⟩)
    go_ret
    exact ⟨ret_int HR.out.symm, bel⟩

--@ impl.State.allocated
set_option maxHeartbeats 400000 in
theorem c_impl_allocated {lo hi : Nat} (v : Value) (s : Ste) (a : Int) (w : World) (h : StateV w lo hi v s) (h8 : s.heap.length = 8) : Calls Try.prog 181 #[v, .int .i64 a] w fun e w' => e = .returned (.bool (allocB s.heap a)) ∧ Below w.heap.size w w' := by
  have h' := h
  obtain ⟨A1, c1, A2, c2, rfl, h1, h2⟩ := h'
  have H8 := Lib.hid h8
  clear h8
  go_enter Try.func181, Try.ntmps181
  go_wp2_with fail
  refine (c_impl_content _ s a _ (h.below bel) H8.out).mono ?_
  rintro e w1 ⟨rfl, hB1⟩
  go_wp2_with fail
  go_ret
  exact ⟨ret_bool (by simp [allocB]), bgo (w := w) bel hB1⟩

--@ impl.termValue
set_option maxHeartbeats 400000 in
theorem c_impl_termValue {lo hi : Nat} (A : Option Addr) (c : Nat) (vs : List Int) (t : Int) (w : World) (h : IntsV w lo hi A vs) (h0 : 0 ≤ t) (hl : t ≤ vs.length) : Calls Try.prog 168 #[.slice A vs.length c, .int .i64 t] w fun e w' => e = .returned (.int .i64 (tval vs t)) ∧ w = w' := by
  have hL := h.le
  by_cases ht : t = 0
  · subst ht
    go_enter Try.func168, Try.ntmps168
    go_wp2
    go_ret
    exact ⟨rfl, rfl⟩
  · obtain ⟨n, rfl⟩ : ∃ n : Nat, t = n + 1 := ⟨(t - 1).toNat, by omega⟩
    have hn : n < vs.length := by omega
    have e0 : ((n : Int) + 1 - 1) = (n : Int) := by omega
    obtain ⟨b, off, rfl, c0⟩ := h.at hn
    have hlt : (n : Int) < (vs.length : Int) := by omega
    have HR := Lib.hid (show tval vs ((n : Int) + 1) = vs[n] by simp [tval, e0, List.getElem?_eq_getElem hn]; omega)
    have ht' : ((n : Int) + 1 == 0) = false := by simpa using ht
    clear ht h0 hl
    go_enter Try.func168, Try.ntmps168
    go_wp2
    go_ret
    exact ⟨ret_int HR.out.symm, rfl⟩

--@ spec.l1Value
set_option maxHeartbeats 400000 in
theorem c_spec_l1Value {lo hi : Nat} (A : Option Addr) (c : Nat) (vs : List Int) (t : Int) (w : World) (h : IntsV w lo hi A vs) (h0 : 0 ≤ t) (hl : t ≤ vs.length) : Calls Try.prog 160 #[.slice A vs.length c, .int .i64 t] w fun e w' => e = .returned (.int .i64 (tval vs t)) ∧ w = w' := by
  have hL := h.le
  by_cases ht : t = 0
  · subst ht
    go_enter Try.func160, Try.ntmps160
    go_wp2
    go_ret
    exact ⟨rfl, rfl⟩
  · obtain ⟨n, rfl⟩ : ∃ n : Nat, t = n + 1 := ⟨(t - 1).toNat, by omega⟩
    have hn : n < vs.length := by omega
    have e0 : ((n : Int) + 1 - 1) = (n : Int) := by omega
    obtain ⟨b, off, rfl, c0⟩ := h.at hn
    have hlt : (n : Int) < (vs.length : Int) := by omega
    have HR := Lib.hid (show tval vs ((n : Int) + 1) = vs[n] by simp [tval, e0, List.getElem?_eq_getElem hn]; omega)
    have ht' : ((n : Int) + 1 == 0) = false := by simpa using ht
    clear ht h0 hl
    go_enter Try.func160, Try.ntmps160
    go_wp2
    go_ret
    exact ⟨ret_int HR.out.symm, rfl⟩

--@ impl.StateValid
set_option maxHeartbeats 1600000 in
theorem c_impl_StateValid {lo hi : Nat} (v : Value) (s : Ste) (w : World) (h : StateV w lo hi v s) : Calls Try.prog 177 #[v] w fun e w' => e = .returned (.bool s.valid) ∧ Below w.heap.size w w' := by
  obtain ⟨A1, c1, A2, c2, rfl, h1, h2⟩ := h
  have hl1 := h1.le
  have hl2 := h2.le
  by_cases e1 : s.values.length = 8
  · by_cases e2 : s.heap.length = 8
    · have t1 : ((s.values.length : Int) != 8) = false := by simp [e1]
      have t2 : ((s.heap.length : Int) != 8) = false := by simp [e2]
      have HV : Hid (s.valid = (s.values.all valB && s.heap.all cellB)) := by simp [Hid, Ste.valid, e1, e2]
      clear e1 e2
      go_enter Try.func177, Try.ntmps177
      go_wp2
      clear t1 t2
      go_loop [20] (fun i => ∃ k : Nat, k ≤ s.values.length ∧ i = .int .i64 k ∧ Hid (s.values.all valB = (s.values.drop k).all valB)) (fun i => s.values.length - (intOf i).toNat)
      case atStart => exact ⟨0, Nat.zero_le _, rfl, by simp [Hid]⟩
      case round =>
        obtain ⟨k, hk, rfl, HA⟩ := hrel
        by_cases hlt : k < s.values.length
        · obtain ⟨b, off, rfl, c0⟩ := h1.at hlt
          have hbl := block_lt_of_cell c0
          have HD := Lib.hid (all_drop valB s.values k hlt)
          cases hc : valB s.values[k]
          · go_wp2_with (go_at_call 224; refine (c_impl_isValue _ _).mono ?_; rintro e w' ⟨rfl, rfl⟩)
            go_ret
            exact ⟨ret_bool (by rw [HV.out, HA.out, HD.out, hc]; rfl), bel⟩
          · go_wp2_with (go_at_call 224; refine (c_impl_isValue _ _).mono ?_; rintro e w' ⟨rfl, rfl⟩)
            go_round
            case rel => exact ⟨k + 1, by omega, by go_num, by show _ = _; rw [HA.out, HD.out, hc]; rfl⟩
            case measure => simp [intOf]; omega
        · obtain rfl : k = s.values.length := by omega
          have HA2 : Hid (s.valid = s.heap.all cellB) := by show _ = _; rw [HV.out, HA.out, List.drop_length]; rfl
          go_wp2
          go_loop [31] (fun i => ∃ k : Nat, k ≤ s.heap.length ∧ i = .int .i64 k ∧ Hid (s.heap.all cellB = (s.heap.drop k).all cellB)) (fun i => s.heap.length - (intOf i).toNat)
          case atStart => exact ⟨0, Nat.zero_le _, rfl, by simp [Hid]⟩
          case round =>
            clear HA
            obtain ⟨k, hk, rfl, HA⟩ := hrel
            by_cases hlt : k < s.heap.length
            · obtain ⟨b, off, rfl, c0⟩ := h2.at hlt
              have hbl := block_lt_of_cell c0
              have HD := Lib.hid (all_drop cellB s.heap k hlt)
              cases hm : (s.heap[k] != -1)
              · have hc : cellB s.heap[k] = true := by simp [cellB]; left; simpa using hm
                have HC := Lib.hid hc
                clear hc
                go_wp2_with (go_at_call 224; refine (c_impl_isValue _ _).mono ?_; rintro e w' ⟨rfl, rfl⟩)
                go_round
                case rel => exact ⟨k + 1, by omega, by go_num, by show _ = _; rw [HA.out, HD.out, HC.out]; rfl⟩
                case measure => simp [intOf]; omega
              · have hne : s.heap[k] ≠ -1 := by simpa using hm
                have HC : Hid (cellB s.heap[k] = valB s.heap[k]) := by simp [Hid, cellB, hne]
                clear hne
                cases hc : valB s.heap[k]
                · go_wp2_with (go_at_call 224; refine (c_impl_isValue _ _).mono ?_; rintro e w' ⟨rfl, rfl⟩)
                  go_ret
                  exact ⟨ret_bool (by rw [HA2.out, HA.out, HD.out, HC.out, hc]; rfl), bel⟩
                · go_wp2_with (go_at_call 224; refine (c_impl_isValue _ _).mono ?_; rintro e w' ⟨rfl, rfl⟩)
                  go_round
                  case rel => exact ⟨k + 1, by omega, by go_num, by show _ = _; rw [HA.out, HD.out, HC.out, hc]; rfl⟩
                  case measure => simp [intOf]; omega
            · obtain rfl : k = s.heap.length := by omega
              go_wp2
              go_ret
              exact ⟨ret_bool (by rw [HA2.out, HA.out, List.drop_length]; rfl), bel⟩
    · have t2 : ((s.heap.length : Int) != 8) = true := by simp; omega
      have HV : Hid (s.valid = false) := by simp [Hid, Ste.valid, e2]
      clear e2
      have t1 : ((s.values.length : Int) != 8) = false := by simp [e1]
      clear e1
      go_enter Try.func177, Try.ntmps177
      go_wp2
      go_ret
      exact ⟨ret_bool HV.out.symm, bel⟩
  · have t1 : ((s.values.length : Int) != 8) = true := by simp; omega
    have HV : Hid (s.valid = false) := by simp [Hid, Ste.valid, e1]
    clear e1
    go_enter Try.func177, Try.ntmps177
    go_wp2
    go_ret
    exact ⟨ret_bool HV.out.symm, bel⟩
end Go.Proofs.Ytcgifoghggajgaa
