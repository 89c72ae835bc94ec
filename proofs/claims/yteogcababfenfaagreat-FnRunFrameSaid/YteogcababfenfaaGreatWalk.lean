/- Contracts: ways through the heap. -/
import Derived.Test.YteogcababfenfaaGreatMCmd
import Derived.Test.YteogcababfenfaaGreatMSte
set_option linter.unusedSimpArgs false
set_option linter.unusedVariables false
namespace Go.Proofs.YteogcababfenfaaGreat
open Go Go.RowKit Go.Proofs

--@ spec.l2Has
set_option maxHeartbeats 800000 in
theorem c_spec_l2Has {lo hi : Nat} (v : Value) (s : Ste) (a : Int) (w : World) (h : StateV w lo hi v s) (h8 : s.heap.length = 8) : Calls Tryz.prog 72 #[v, .int .i64 a] w fun e w' => e = .returned (.bool (allocB s.heap a)) ∧ Below w.heap.size w w' := by
  obtain ⟨A1, c1, A2, c2, rfl, h1, h2⟩ := h
  by_cases ha : 1 ≤ a
  · by_cases ha2 : a ≤ 8
    · obtain ⟨n, rfl⟩ : ∃ n : Nat, a = n + 1 := ⟨(a - 1).toNat, by omega⟩
      have hn : n < s.heap.length := by omega
      have h0 : ((n : Int) + 1 - 1) = (n : Int) := by omega
      obtain ⟨b, off, rfl, c0⟩ := h2.at hn
      have hbl := block_lt_of_cell c0
      have hlt : (n : Int) < (s.heap.length : Int) := by omega
      have HR : Hid (allocB s.heap ((n : Int) + 1) = decide (0 ≤ s.heap[n])) := by
        have : addrB ((n : Int) + 1) = true := by simp [addrB]; omega
        simp [Hid, allocB, cont, this, h0, List.getElem?_eq_getElem hn]
      clear h8
      go_enter Tryz.func72, Tryz.ntmps72
      go_wp2
      go_ret
      exact ⟨ret_bool HR.out.symm, bel⟩
    · have HR : Hid (allocB s.heap a = false) := by
        have : addrB a = false := by simp [addrB]; omega
        simp [Hid, allocB, cont, this]
      clear h8
      go_enter Tryz.func72, Tryz.ntmps72
      go_wp2
      go_ret
      exact ⟨ret_bool HR.out.symm, bel⟩
  · have HR : Hid (allocB s.heap a = false) := by
      have : addrB a = false := by simp [addrB]; omega
      simp [Hid, allocB, cont, this]
    clear h8
    go_enter Tryz.func72, Tryz.ntmps72
    go_wp2
    go_ret
    exact ⟨ret_bool HR.out.symm, bel⟩

--@ spec.l2Walk
--@ impl.cellSet.has
set_option maxHeartbeats 800000 in
theorem c_impl_cellHas (S : Nat) (n : Int) (w : World) (hS : S < 65536) : Calls Tryz.prog 86 #[.int .u16 S, .int .i64 n] w fun e w' => e = .returned (.bool (addrB n && S.testBit n.toNat)) ∧ w = w' := by
  cases ha : addrB n
  · go_enter Tryz.func86, Tryz.ntmps86
    go_wp2_with (go_at_call 87; refine (c_impl_isAddr _ _).mono ?_; rintro e w' ⟨rfl, rfl⟩)
    go_ret
    exact ⟨rfl, rfl⟩
  · have ha2 := ha
    simp only [addrB, decide_eq_true_eq] at ha2
    obtain ⟨m, rfl⟩ := Int.eq_ofNat_of_zero_le (show 0 ≤ n by omega)
    obtain ⟨x1, x2⟩ := ha2
    go_enter Tryz.func86, Tryz.ntmps86
    go_wp2_with (go_at_call 87; refine (c_impl_isAddr _ _).mono ?_; rintro e w' ⟨rfl, rfl⟩)
    go_ret
    exact ⟨ret_bool (by simp [bit_has _ _ hS]), rfl⟩

--@ impl.cellSet.list
--@ impl.usedIn
theorem used_succ (h : List Int) (k : Nat) : ((List.range' 1 (k + 1)).filter fun n => allocB h (n : Nat)).map (fun n : Nat => (n : Int)) = ((List.range' 1 k).filter fun n => allocB h (n : Nat)).map (fun n : Nat => (n : Int)) ++ if allocB h ((k : Int) + 1) then [(k : Int) + 1] else [] := by
  rw [List.range'_1_concat, List.filter_append, List.map_append, Nat.add_comm 1 k]
  have e : ((k + 1 : Nat) : Int) = (k : Int) + 1 := by omega
  cases h' : allocB h ((k : Int) + 1) <;> simp [h']
def usedL (h : List Int) (k : Nat) : List Int := ((List.range' 1 k).filter fun n => allocB h (n : Nat)).map (fun n : Nat => (n : Int))
theorem usedL_mem (h : List Int) (k : Nat) (x : Int) : x ∈ usedL h k ↔ 1 ≤ x ∧ x ≤ k ∧ allocB h x = true := by
  unfold usedL
  simp only [List.mem_map, List.mem_filter, List.mem_range'_1]
  constructor
  · rintro ⟨n, ⟨h1, h2⟩, rfl⟩; exact ⟨by omega, by omega, h2⟩
  · rintro ⟨h1, h2, h3⟩
    obtain ⟨n, rfl⟩ := Int.eq_ofNat_of_zero_le (show 0 ≤ x by omega)
    exact ⟨n, ⟨by omega, h3⟩, rfl⟩
theorem usedL_lt (h : List Int) {k : Nat} (hk : k ≤ 8) : bitsOf (usedL h k) < 512 := by
  have := bitsOf_lt (l := usedL h k) (k := 9) (fun x hx => by have := (usedL_mem h k x).1 hx; omega)
  simpa using this
set_option maxHeartbeats 800000 in
theorem c_impl_usedIn {lo hi : Nat} (v : Value) (s : Ste) (w : World) (h : StateV w lo hi v s) (h8 : s.heap.length = 8) : Calls Tryz.prog 51 #[v] w fun e w' => e = .returned (.int .u16 (bitsOf (usedL s.heap 8))) ∧ Below w.heap.size w w' := by
  have hV := Lib.hid h
  obtain ⟨A1, c1, A2, c2, rfl, h1, h2⟩ := h
  have H8 := Lib.hid h8
  clear h8
  go_enter Tryz.func51, Tryz.ntmps51
  go_wp2
  go_loopw [3, 4] (fun S i wr => ∃ (k : Nat), k ≤ 8 ∧ i = .int .i64 (k + 1) ∧ S = .int .u16 (bitsOf (usedL s.heap k)) ∧ Blk wr w.heap.size 25 #[.slice A1 s.values.length c1, .slice A2 s.heap.length c2] ∧ Below w.heap.size w wr) (fun _ i _ => 9 - (intOf i).toNat)
  case atStart => exact ⟨0, by omega, rfl, rfl, blks, bel⟩
  case round =>
    obtain ⟨k, hk, rfl, rfl, hK, hB⟩ := hrel
    have q := hK.cell
    by_cases hn : k < 8
    · have HU := Lib.hid (used_succ s.heap k)
      cases hs : allocB s.heap ((k : Int) + 1)
      · go_wp2_with fail
        refine (c_impl_allocated _ s _ _ (hV.out.below hB) H8.out).mono ?_
        rintro e w1 ⟨rfl, hB1⟩
        go_wp2_with fail
        go_round
        case rel => exact ⟨k + 1, by omega, by go_num, by rw [show usedL s.heap (k + 1) = usedL s.heap k by (show _ = _); unfold usedL; rw [HU.out, hs]; simp], hK.next hB1, bgo hB hB1⟩
        case measure => simp [intOf]; omega
      · go_wp2_with fail
        refine (c_impl_allocated _ s _ _ (hV.out.below hB) H8.out).mono ?_
        rintro e w1 ⟨rfl, hB1⟩
        go_wp2_with fail
        go_round
        case rel =>
          have e : usedL s.heap (k + 1) = usedL s.heap k ++ [(k : Int) + 1] := by unfold usedL; rw [HU.out, hs]; simp
          have hlt := usedL_lt s.heap (k := k) (by omega)
          refine ⟨k + 1, by omega, by go_num, ?_, hK.next hB1, bgo hB hB1⟩
          rw [e, bitsOf_snoc]
          congr 1
          rw [show ((k : Int) + 1).toNat = k + 1 from by omega]
          exact bit_or _ _ (by omega) (by omega)
        case measure => simp [intOf]; omega
    · obtain rfl : k = 8 := by omega
      go_wp2
      go_ret
      exact ⟨rfl, hB⟩
--@ impl.FactsHold
theorem valid_terms {fs : List Fct} (h : fs.all Fct.valid = true) {k : Nat} (hk : k < fs.length) : 0 ≤ fs[k].a ∧ fs[k].a ≤ 8 ∧ 0 ≤ fs[k].b ∧ fs[k].b ≤ 8 := by
  have := List.all_eq_true.1 h fs[k] (List.getElem_mem hk)
  simp [Fct.valid, isTermB] at this
  omega
theorem holds_no {vs : List Int} {f : Fct} (h : (!(tval vs f.a == tval vs f.b) == f.eq) = true) : Fct.holds vs f = false := by
  unfold Fct.holds
  cases he : f.eq <;> by_cases hd : tval vs f.a = tval vs f.b <;> simp_all
theorem holds_yes {vs : List Int} {f : Fct} (h : (!(tval vs f.a == tval vs f.b) == f.eq) = false) : Fct.holds vs f = true := by
  unfold Fct.holds
  cases he : f.eq <;> by_cases hd : tval vs f.a = tval vs f.b <;> simp_all
set_option maxHeartbeats 1600000 in
theorem c_spec_l1Hold {lo hi lo' hi' : Nat} (A A' : Option Addr) (c c' : Nat) (fs : List Fct) (vs : List Int) (w : World) (h : FactsV w lo hi A fs) (h' : IntsV w lo' hi' A' vs) (hall : fs.all Fct.valid = true) (h8 : vs.length = 8) : Calls Tryz.prog 83 #[.slice A fs.length c, .slice A' vs.length c'] w fun e w' => e = .returned (.bool (fs.all (Fct.holds vs))) ∧ Below w.heap.size w w' := by
  have hl := h.le
  have hl' := h'.le
  have HALL := Lib.hid hall
  have H8 := Lib.hid h8
  clear hall h8
  go_enter Tryz.func83, Tryz.ntmps83
  go_wp2
  go_loopw [5] (fun i wr => ∃ k : Nat, k ≤ fs.length ∧ i = .int .i64 k ∧ Hid (fs.all (Fct.holds vs) = (fs.drop k).all (Fct.holds vs)) ∧ Below w.heap.size w wr) (fun i _ => fs.length - (intOf i).toNat)
  case atStart => exact ⟨0, Nat.zero_le _, rfl, by simp [Hid], bel⟩
  case round =>
    obtain ⟨k, hk, rfl, HA, hB⟩ := hrel
    by_cases hlt : k < fs.length
    · obtain ⟨b, off, rfl, c0, c1, c2⟩ := (h.below hB).at hlt
      have HD := Lib.hid (all_drop (Fct.holds vs) fs k hlt)
      obtain ⟨g1, g2, g3, g4⟩ := valid_terms HALL.out hlt
      have h8'' : (vs.length : Int) ≤ 8 ∧ 8 ≤ (vs.length : Int) := by have := H8.out; omega
      cases hh : (!(tval vs fs[k].a == tval vs fs[k].b) == fs[k].eq)
      all_goals
        have HH := Lib.hid hh
        go_wp2_with fail
        go_quiet ((go_at_call 125; exact Calls.quiet_of_same ((c_spec_l1Value A' c' vs _ _ ((h'.below hB).dr _) (by omega) (by omega)).mono fun _ _ ⟨a, b⟩ => ⟨a, b.symm⟩)))
        go_wp2_with fail
      · go_round
        case rel =>
          refine ⟨k + 1, by omega, by go_num, ?_, below_drewN hB _⟩
          show _ = _
          rw [HA.out, HD.out, holds_yes HH.out]
          rfl
        case measure => simp [intOf]; omega
      · go_ret
        refine ⟨ret_bool ?_, below_drewN hB _⟩
        rw [HA.out, HD.out, holds_no HH.out]
        rfl
    · obtain rfl : k = fs.length := by omega
      go_wp2
      go_ret
      exact ⟨ret_bool (by rw [HA.out, List.drop_length]; rfl), hB⟩

--@ impl.WalkCells
set_option maxHeartbeats 1600000 in
theorem c_spec_StateValid {lo hi : Nat} (v : Value) (s : Ste) (w : World) (h : StateV w lo hi v s) : Calls Tryz.prog 71 #[v] w fun e w' => e = .returned (.bool s.valid) ∧ Below w.heap.size w w' := by
  obtain ⟨A1, c1, A2, c2, rfl, h1, h2⟩ := h
  have hl1 := h1.le
  have hl2 := h2.le
  go_enter Tryz.func71, Tryz.ntmps71
  go_wp2
  go_loop [3] (fun i => ∃ k : Nat, k ≤ s.values.length ∧ i = .int .i64 k ∧ Hid (s.values.all valB = (s.values.drop k).all valB)) (fun i => s.values.length - (intOf i).toNat)
  case atStart => exact ⟨0, Nat.zero_le _, rfl, by simp [Hid]⟩
  case round =>
    obtain ⟨k, hk, rfl, HA⟩ := hrel
    by_cases hlt : k < s.values.length
    · obtain ⟨b, off, rfl, c0⟩ := h1.at hlt
      have hbl := block_lt_of_cell c0
      have HD := Lib.hid (all_drop valB s.values k hlt)
      cases hc : valB s.values[k]
      · go_wp2_with (go_at_call 116; refine (c_spec_l2Addr _ _).mono ?_; rintro e w' ⟨rfl, rfl⟩)
        go_ret
        exact ⟨ret_bool (by rw [Ste.valid, HA.out, HD.out, hc]; simp), bel⟩
      · go_wp2_with (go_at_call 116; refine (c_spec_l2Addr _ _).mono ?_; rintro e w' ⟨rfl, rfl⟩)
        go_round
        case rel => exact ⟨k + 1, by omega, by go_num, by show _ = _; rw [HA.out, HD.out, hc]; rfl⟩
        case measure => simp [intOf]; omega
    · obtain rfl : k = s.values.length := by omega
      have HA2 : Hid (s.values.all valB = true) := by show _ = _; rw [HA.out, List.drop_length]; rfl
      go_wp2
      go_loop [4] (fun i => ∃ k : Nat, k ≤ s.heap.length ∧ i = .int .i64 k ∧ Hid (s.heap.all cellB = (s.heap.drop k).all cellB)) (fun i => s.heap.length - (intOf i).toNat)
      case atStart => exact ⟨0, Nat.zero_le _, rfl, by simp [Hid]⟩
      case round =>
        clear HA
        obtain ⟨k, hk, rfl, HA⟩ := hrel
        by_cases hlt : k < s.heap.length
        · obtain ⟨b, off, rfl, c0⟩ := h2.at hlt
          have hbl := block_lt_of_cell c0
          have HD := Lib.hid (all_drop cellB s.heap k hlt)
          cases hm : (s.heap[k] != -1)
          · have hc : cellB s.heap[k] = true := by simp [cellB]; left; simpa using hm
            have HC := Lib.hid hc
            clear hc
            go_wp2_with (go_at_call 116; refine (c_spec_l2Addr _ _).mono ?_; rintro e w' ⟨rfl, rfl⟩)
            go_round
            case rel => exact ⟨k + 1, by omega, by go_num, by show _ = _; rw [HA.out, HD.out, HC.out]; rfl⟩
            case measure => simp [intOf]; omega
          · have hne : s.heap[k] ≠ -1 := by simpa using hm
            have HC : Hid (cellB s.heap[k] = valB s.heap[k]) := by simp [Hid, cellB, hne]
            clear hne
            cases hc : valB s.heap[k]
            · go_wp2_with (go_at_call 116; refine (c_spec_l2Addr _ _).mono ?_; rintro e w' ⟨rfl, rfl⟩)
              go_ret
              exact ⟨ret_bool (by rw [Ste.valid, HA2.out, HA.out, HD.out, HC.out, hc]; simp), bel⟩
            · go_wp2_with (go_at_call 116; refine (c_spec_l2Addr _ _).mono ?_; rintro e w' ⟨rfl, rfl⟩)
              go_round
              case rel => exact ⟨k + 1, by omega, by go_num, by show _ = _; rw [HA.out, HD.out, HC.out, hc]; rfl⟩
              case measure => simp [intOf]; omega
        · obtain rfl : k = s.heap.length := by omega
          have HV : Hid (s.valid = (decide (s.values.length = 8) && decide (s.heap.length = 8))) := by show _ = _; rw [Ste.valid, HA2.out, HA.out, List.drop_length]; simp
          by_cases e1 : s.values.length = 8
          · have t1 : ((s.values.length : Int) == 8) = true := by simp [e1]
            have E1 := Lib.hid e1
            clear e1
            by_cases e2 : s.heap.length = 8
            · have t2 : ((s.heap.length : Int) == 8) = true := by simp [e2]
              have E2 := Lib.hid e2
              clear e2
              go_wp2
              go_ret
              exact ⟨ret_bool (by rw [HV.out]; simp [E1.out, E2.out]), bel⟩
            · have t2 : ((s.heap.length : Int) == 8) = false := by simp; omega
              have E2 := Lib.hid e2
              clear e2
              go_wp2
              go_ret
              exact ⟨ret_bool (by rw [HV.out]; simp [E1.out, E2.out]), bel⟩
          · have t1 : ((s.values.length : Int) == 8) = false := by simp; omega
            have E1 := Lib.hid e1
            clear e1
            go_wp2
            go_ret
            exact ⟨ret_bool (by rw [HV.out]; simp [E1.out]), bel⟩

--@ impl.AtomCells
end Go.Proofs.YteogcababfenfaaGreat
