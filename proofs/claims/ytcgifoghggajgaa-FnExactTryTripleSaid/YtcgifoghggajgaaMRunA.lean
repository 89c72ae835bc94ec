/- Sets of terms as flags: the spec's contracts. -/
import Derived.Test.YtcgifoghggajgaaMCmdC
import Derived.Test.YtcgifoghggajgaaHolds
import Derived.Test.YtcgifoghggajgaaMTlist
import Derived.Test.YtcgifoghggajgaaMCmdF
import Derived.Laws.CopyOwn
import Derived.Test.YtcgifoghggajgaaMDrawT
import Derived.Test.YtcgifoghggajgaaMCmdK
import Derived.Test.YtcgifoghggajgaaLast
set_option linter.unusedSimpArgs false
set_option linter.unusedVariables false
namespace Go.Proofs.Ytcgifoghggajgaa
open Go Go.RowKit Go.Proofs
attribute [local go_sem ↓] Go.wp_at_zero Go.wp_at_succ

theorem termsL_ok {a : Asn} (h : a.valid = true) : ∀ t ∈ termsL a, isTermB t = true := by
  simp only [Asn.valid, factsValid, Bool.and_eq_true, List.all_eq_true] at h
  intro t ht
  simp only [termsL, List.mem_append, List.mem_flatMap] at ht
  rcases ht with ⟨f, hf, ht⟩ | ⟨f, hf, ht⟩
  · have := h.1.2 f hf
    simp only [Fct.valid, Bool.and_eq_true] at this
    simp only [factT, List.mem_cons, List.not_mem_nil, or_false] at ht
    rcases ht with rfl | rfl
    · exact this.1
    · exact this.2
  · have := h.2.2 f hf
    simp only [Atm.valid, Bool.and_eq_true] at this
    simp only [atomT, List.mem_cons, List.not_mem_nil, or_false] at ht
    rcases ht with rfl | rfl
    · exact this.1.2
    · exact this.2
theorem termsL_atoms {a : Asn} {k : Nat} (h : k < a.atoms.length) : a.atoms[k].a ∈ termsL a ∧ a.atoms[k].b ∈ termsL a := by
  simp only [termsL, List.mem_append, List.mem_flatMap]
  exact ⟨Or.inr ⟨_, List.getElem_mem h, by simp [atomT]⟩, Or.inr ⟨_, List.getElem_mem h, by simp [atomT]⟩⟩
theorem tins_flags (S m : Nat) (hm : m ≤ 8) : ((encB (flagsOf S)).toArray).setIfInBounds m (.bool true) = (encB (flagsOf (tins S (m : Int)))).toArray := by
  rw [flags_upd, tins, if_pos (isTermB_iff.2 (by omega)), Int.toNat_natCast]
theorem BoolsO.ofBlk {w : World} {g base S : Nat} (h : Blk w g tB (encB (flagsOf S)).toArray) (hb : base ≤ g) : BoolsO w base (.slice (some ⟨g, 0, none⟩) 9 9) (flagsOf S) :=
  ⟨own_of_blk (n := 9) (cap := 9) h hb (by simp [flagsOf]) (by intro j hj; simp) (Nat.le_refl _) (by decide) (by simp [flagsOf]), by simp [flagsOf, Lim]⟩
theorem mkB9 (w : World) : (Instr.makeSlice 97 (.int .i64 9) (.int .i64 9)).run Try.prog w = .ok (.slice (some ⟨w.heap.size, 0, none⟩) 9 9) (w.alloc (.cells (encB (flagsOf 0)).toArray tB)) :=
  (mkB 9 (by decide) w).trans (by rw [show (madeCells #[.bool false] (9 * 1)) = (encB (flagsOf 0)).toArray from by kernel_rfl])

theorem flags_at {w : World} {lo hi b o K m : Nat} (h : BoolsV w lo hi (some ⟨b, o, none⟩) (flagsOf K)) (hm : m ≤ 8) : w.cell? ⟨b, o + m, none⟩ = some (.bool (K.testBit m)) := by
  have := h.cl (k := m) (by rw [flagsOf_length]; omega)
  rw [this]
  have e := flagsOf_get K m (by omega)
  rw [List.getElem?_eq_getElem (by rw [flagsOf_length]; omega)] at e
  rw [Option.some.inj e]
theorem flags_addr {w : World} {lo hi K : Nat} {A : Option Addr} (h : BoolsV w lo hi A (flagsOf K)) : ∃ b o, A = some ⟨b, o, none⟩ ∧ b < w.heap.size := h.blt (k := 0) (by rw [flagsOf_length]; omega)

--@ spec.l10Busy
set_option maxHeartbeats 1600000 in
theorem c_spec_l10Busy {lo hi : Nat} (A : Option Addr) (c : Nat) (xs : List Int) (w : World) (h : IntsV w lo hi A xs) : Calls Try.prog 113 #[.slice A xs.length c] w fun e w' => ∃ r, e = .returned r ∧ BoolsO w' w.heap.size r (flagsOf (tset xs)) ∧ Below w.heap.size w w' := by
  have hl := h.le
  have hmk := mkB9
  have HT : Hid (tset xs = xs.foldl tins 0) := by show _ = _; unfold tset; rfl
  go_enter Try.func113, Try.ntmps113
  go_wp2
  clear hmk
  go_loopw [4] (fun i wr => ∃ (k T : Nat), k ≤ xs.length ∧ i = .int .i64 k ∧ Hid (tset xs = (xs.drop k).foldl tins T) ∧ Blk wr w.heap.size tB (encB (flagsOf T)).toArray ∧ Below w.heap.size w wr) (fun i _ => xs.length - (intOf i).toNat)
  case atStart => exact ⟨0, 0, Nat.zero_le _, rfl, HT.out, blks, bel⟩
  case round =>
    obtain ⟨k, T, hk, rfl, HA, k0, hB⟩ := hrel
    by_cases hlt : k < xs.length
    · obtain ⟨b, off, rfl, c0⟩ := (h.below hB).at hlt
      have HD := Lib.hid (foldl_step tins T xs k hlt)
      have hne := block_lt_of_cell c0
      cases ht : isTermB xs[k]
      · have HS : Hid (tins T xs[k] = T) := by simp [Hid, tins, ht]
        go_wp2_with (go_at_call 112; refine (c_spec_l1Is _ _).mono ?_; rintro e w' ⟨rfl, rfl⟩)
        go_round
        case rel => exact ⟨k + 1, T, by omega, by go_num, by show _ = _; rw [HA.out, HD.out, HS.out], k0, hB⟩
        case measure => simp [intOf]; omega
      · have hb := isTermB_iff.1 ht
        obtain ⟨m, hm⟩ := Int.eq_ofNat_of_zero_le hb.1
        have HM := Lib.hid hm
        have m8 : m ≤ 8 := by omega
        have m8' : (m : Int) < 9 := by omega
        rw [hm] at c0 ht
        have q3 : wr.cell? ⟨w.heap.size, m, none⟩ = some (.bool (T.testBit m)) := (k0.cell m).trans (flags_cell T _ rfl (by omega))
        have r3 := k0.frozen
        clear hm hb
        go_wp2_with (go_at_call 112; refine (c_spec_l1Is _ _).mono ?_; rintro e w' ⟨rfl, rfl⟩)
        go_round
        case rel =>
          refine ⟨k + 1, tins T xs[k], by omega, by go_num, by show _ = _; rw [HA.out, HD.out], ?_, bel⟩
          rw [HM.out, ← tins_flags _ _ m8]
          exact k0.set_ _ _
        case measure => simp [intOf]; omega
    · obtain rfl : k = xs.length := by omega
      go_wp2
      go_ret
      refine ⟨_, rfl, ?_, hB⟩
      rw [HA.out, List.drop_length]
      exact BoolsO.ofBlk k0 (Nat.le_refl _)

--@ spec.l3Terms
theorem flags2 (T m1 m2 : Nat) (h1 : m1 ≤ 8) (h2 : m2 ≤ 8) : (((encB (flagsOf T)).toArray).setIfInBounds m1 (.bool true)).setIfInBounds m2 (.bool true) = (encB (flagsOf (tins (tins T (m1 : Int)) (m2 : Int)))).toArray := by
  rw [tins_flags _ _ h1, tins_flags _ _ h2]
theorem Blk.two {w : World} {g T m1 m2 : Nat} (h : Blk w g tB (encB (flagsOf T)).toArray) (h1 : m1 ≤ 8) (h2 : m2 ≤ 8) : Blk ((w.setCell ⟨g, m1, none⟩ (.bool true)).setCell ⟨g, m2, none⟩ (.bool true)) g tB (encB (flagsOf (tins (tins T (m1 : Int)) (m2 : Int)))).toArray := by
  rw [← flags2 _ _ _ h1 h2]; exact (h.set_ _ _).set_ _ _
theorem Blk.twice {w : World} {g T m1 : Nat} (h : Blk w g tB (encB (flagsOf T)).toArray) (h1 : m1 ≤ 8) : Blk (w.setCell ⟨g, m1, none⟩ (.bool true)) g tB (encB (flagsOf (tins (tins T (m1 : Int)) (m1 : Int)))).toArray := by
  rw [← tins_flags _ _ h1, ← tins_flags _ _ h1]
  have e : ∀ (a : Array Value) (i : Nat) (u : Value), (a.setIfInBounds i u).setIfInBounds i u = a.setIfInBounds i u := by
    intro a i u; apply Array.ext_getElem?; intro j
    by_cases e : i = j
    · subst e
      rw [Array.getElem?_setIfInBounds_self, Array.size_setIfInBounds, Array.getElem?_setIfInBounds_self]
    · rw [Array.getElem?_setIfInBounds_ne e]
  rw [e]
  exact h.set_ _ _
set_option maxRecDepth 100000 in
set_option maxHeartbeats 3200000 in
theorem c_spec_l3Terms {lo hi : Nat} (v : Value) (a : Asn) (w : World) (h : AsnV w lo hi v a) (hv : ∀ t ∈ termsL a, isTermB t = true) : Calls Try.prog 149 #[v] w fun e w' => ∃ r, e = .returned r ∧ BoolsO w' w.heap.size r (flagsOf (tset (termsL a))) ∧ Below w.heap.size w w' := by
  obtain ⟨A1, c1, A2, c2, rfl, h1, h2⟩ := h
  have hl1 := h1.le
  have hl2 := h2.le
  have hmk := mkB9
  have HV := Lib.hid hv
  have HT := Lib.hid (tset_terms a)
  clear hv
  go_enter Try.func149, Try.ntmps149
  go_wp2
  clear hmk
  go_loopw [4] (fun i wr => ∃ (k T : Nat), k ≤ a.facts.length ∧ i = .int .i64 k ∧ Hid (a.facts.foldl (fun S f => tins (tins S f.a) f.b) 0 = (a.facts.drop k).foldl (fun S f => tins (tins S f.a) f.b) T) ∧ Blk wr w.heap.size 48 #[.slice A1 a.facts.length c1, .slice A2 a.atoms.length c2] ∧ Blk wr (w.heap.size + 1) tB (encB (flagsOf T)).toArray ∧ Below w.heap.size w wr) (fun i _ => a.facts.length - (intOf i).toNat)
  case atStart => exact ⟨0, 0, Nat.zero_le _, rfl, rfl, blks, blks, bel⟩
  case round =>
    obtain ⟨k, T, hk, rfl, HA, k0, k1, hB⟩ := hrel
    have qk0 := k0.cell
    by_cases hlt : k < a.facts.length
    · obtain ⟨b, off, rfl, hbl⟩ := h1.blt hlt
      obtain ⟨g0, g1, g2⟩ := (h1.below hB).cl hlt
      have HD := Lib.hid (foldl_step (fun S (f : Fct) => tins (tins S f.a) f.b) T a.facts k hlt)
      have hm := termsL_facts (List.getElem_mem hlt)
      have b1 := isTermB_iff.1 (HV.out _ hm.1)
      have b2 := isTermB_iff.1 (HV.out _ hm.2)
      obtain ⟨m1, e1⟩ := Int.eq_ofNat_of_zero_le b1.1
      obtain ⟨m2, e2⟩ := Int.eq_ofNat_of_zero_le b2.1
      have E1 := Lib.hid e1
      have E2 := Lib.hid e2
      rw [e1] at g1
      rw [e2] at g2
      have m18 : (m1 : Int) < 9 := by omega
      have m28 : (m2 : Int) < 9 := by omega
      have q1 : wr.cell? ⟨w.heap.size + 1, m1, none⟩ = some (.bool (T.testBit m1)) := (k1.cell m1).trans (flags_cell T _ rfl (by omega))
      have q2 : wr.cell? ⟨w.heap.size + 1, m2, none⟩ = some (.bool (T.testBit m2)) := (k1.cell m2).trans (flags_cell T _ rfl (by omega))
      have r3 := k1.frozen
      clear e1 e2 hm b1 b2
      by_cases he : m1 = m2
      · subst he
        go_wp2_with fail
        go_round
        case rel =>
          refine ⟨k + 1, tins (tins T (m1 : Int)) (m1 : Int), by omega, by go_num, by show _ = _; rw [HA.out, HD.out, E1.out, E2.out], ?_, ?_, bel⟩
          · first | exact k0.far (by simp) _ | exact (k0.far (by simp) _).far (by simp) _
          · first | exact k1.twice (by omega) | exact k1.two (by omega) (by omega)
        case measure => simp [intOf]; omega
      · have he2 := Ne.symm he
        go_wp2_with fail
        go_round
        case rel =>
          refine ⟨k + 1, tins (tins T (m1 : Int)) (m2 : Int), by omega, by go_num, by show _ = _; rw [HA.out, HD.out, E1.out, E2.out], (k0.far (by simp) _).far (by simp) _, k1.two (by omega) (by omega), bel⟩
        case measure => simp [intOf]; omega
    · obtain rfl : k = a.facts.length := by omega
      have HA2 := Lib.hid (show a.facts.foldl (fun S f => tins (tins S f.a) f.b) 0 = T by rw [HA.out, List.drop_length]; rfl)
      go_wp2_with fail
      go_loopw [5] (fun i wx => ∃ (k T' : Nat), k ≤ a.atoms.length ∧ i = .int .i64 k ∧ Hid (a.atoms.foldl (fun S f => tins (tins S f.a) f.b) T = (a.atoms.drop k).foldl (fun S f => tins (tins S f.a) f.b) T') ∧ Blk wx w.heap.size 48 #[.slice A1 a.facts.length c1, .slice A2 a.atoms.length c2] ∧ Blk wx (w.heap.size + 1) tB (encB (flagsOf T')).toArray ∧ Below w.heap.size w wx) (fun i _ => a.atoms.length - (intOf i).toNat)
      case atStart => exact ⟨0, T, Nat.zero_le _, rfl, rfl, k0, k1, hB⟩
      case round =>
        clear k0 qk0 k1 hB
        obtain ⟨k, T', hk, rfl, HB, k0, k1, hB⟩ := hrel
        have qk0 := k0.cell
        by_cases hlt2 : k < a.atoms.length
        · obtain ⟨b, off, rfl, hbl⟩ := h2.blt hlt2
          obtain ⟨g0, g1, g2⟩ := (h2.below hB).cl hlt2
          have HD := Lib.hid (foldl_step (fun S (f : Atm) => tins (tins S f.a) f.b) T' a.atoms k hlt2)
          have hm := termsL_atoms hlt2
          have b1 := isTermB_iff.1 (HV.out _ hm.1)
          have b2 := isTermB_iff.1 (HV.out _ hm.2)
          obtain ⟨m1, e1⟩ := Int.eq_ofNat_of_zero_le b1.1
          obtain ⟨m2, e2⟩ := Int.eq_ofNat_of_zero_le b2.1
          have E1 := Lib.hid e1
          have E2 := Lib.hid e2
          rw [e1] at g1
          rw [e2] at g2
          have m18 : (m1 : Int) < 9 := by omega
          have m28 : (m2 : Int) < 9 := by omega
          have q1 : wr.cell? ⟨w.heap.size + 1, m1, none⟩ = some (.bool (T'.testBit m1)) := (k1.cell m1).trans (flags_cell T' _ rfl (by omega))
          have q2 : wr.cell? ⟨w.heap.size + 1, m2, none⟩ = some (.bool (T'.testBit m2)) := (k1.cell m2).trans (flags_cell T' _ rfl (by omega))
          have r3 := k1.frozen
          clear e1 e2 hm b1 b2
          by_cases he : m1 = m2
          · subst he
            go_wp2_with fail
            go_round
            case rel =>
              refine ⟨k + 1, tins (tins T' (m1 : Int)) (m1 : Int), by omega, by go_num, by show _ = _; rw [HB.out, HD.out, E1.out, E2.out], ?_, ?_, bel⟩
              · first | exact k0.far (by simp) _ | exact (k0.far (by simp) _).far (by simp) _
              · first | exact k1.twice (by omega) | exact k1.two (by omega) (by omega)
            case measure => simp [intOf]; omega
          · have he2 := Ne.symm he
            go_wp2_with fail
            go_round
            case rel =>
              refine ⟨k + 1, tins (tins T' (m1 : Int)) (m2 : Int), by omega, by go_num, by show _ = _; rw [HB.out, HD.out, E1.out, E2.out], (k0.far (by simp) _).far (by simp) _, k1.two (by omega) (by omega), bel⟩
            case measure => simp [intOf]; omega
        · obtain rfl : k = a.atoms.length := by omega
          go_wp2_with fail
          go_ret
          refine ⟨_, rfl, ?_, hB⟩
          rw [HT.out, HA2.out, HB.out, List.drop_length]
          exact BoolsO.ofBlk k1 (by omega)
end Go.Proofs.Ytcgifoghggajgaa

/- Contracts: framed contracts: copies, disjoint sets. -/
namespace Go.Proofs.Ytcgifoghggajgaa
open Go Go.RowKit Go.Proofs
attribute [local go_sem ↓] Go.wp_at_zero Go.wp_at_succ

--@ impl.copyInts
set_option maxRecDepth 100000 in
set_option maxHeartbeats 800000 in
theorem c_impl_copyInts {lo hi : Nat} (A : Option Addr) (c : Nat) (xs : List Int) (w : World) (h : IntsV w lo hi A xs) : Calls Try.prog 230 #[.slice A xs.length c] w fun e w' => ∃ r, e = .returned r ∧ IntsO w' w.heap.size r xs ∧ Below w.heap.size w w' := by
  have hl := h.le
  have hmk := mkI xs.length h.lim
  have hb0 : Below w.heap.size w (w.alloc (.cells (madeCells #[.int .i64 0] (xs.length)) tI)) := bel
  have hV := Lib.hid (h.below hb0)
  go_enter Try.func230, Try.ntmps230
  go_wp2_with (with_reducible refine wpList_copy_splice rfl _ _ 24 24 rfl tI Try.underlying24 (by kernel_rfl) (some ⟨w.heap.size, 0, none⟩) A xs.length xs.length xs.length c rfl rfl w.heap.size 0 (madeCells #[.int .i64 0] (xs.length)).toList tI ?c1 (encI xs) ?c2 ?c3 ?c4 (encI_one _) w.heap.size w hb0 (Nat.le_refl _) ?_)
  case c1 => simpa using heap_alloc_new w (.cells (madeCells #[.int .i64 0] xs.length) tI)
  case c2 => simp
  case c3 =>
    intro h0
    obtain ⟨b, o, rfl, _, _, hc⟩ := hV.out.raw.2 (by simpa using h0)
    exact ⟨_, rfl, fun j u hu => by
      rw [show (⟨b, o, none⟩ : Addr).add j = ⟨b, o + j, none⟩ from by unfold Addr.add; split <;> simp_all]
      exact hc j _ (by rw [List.getElem?_map, hu]; rfl)⟩
  case c4 => simp [size_madeCells]
  intro w' hH hB
  clear hmk
  go_wp2
  go_ret
  have hs := hH.out
  rw [show splice (madeCells #[Value.int .i64 0] (xs.length)).toList 0 (encI xs) = encI xs from by simp [splice, size_madeCells]] at hs
  exact ⟨_, rfl, ⟨own_of_blk (cap := xs.length) hs (Nat.le_refl _) (by simp) (by intro j hj; simp) (Nat.le_refl _) (by unfold maxLen; omega) (by simp), h.lim⟩, hB⟩
end Go.Proofs.Ytcgifoghggajgaa

/- Contracts: impl's copies of states. -/
namespace Go.Proofs.Ytcgifoghggajgaa
open Go Go.RowKit Go.Proofs

--@ impl.copyState
set_option maxRecDepth 100000 in
set_option maxHeartbeats 1600000 in
theorem c_impl_copyState {lo hi : Nat} (v : Value) (s : Ste) (w : World) (h : StateV w lo hi v s) : Calls Try.prog 186 #[v] w fun e w' => ∃ r, e = .returned r ∧ StateO w' w.heap.size r s ∧ Below w.heap.size w w' := by
  obtain ⟨A1, c1, A2, c2, rfl, h1, h2⟩ := h
  have H1 := Lib.hid h1
  have H2 := Lib.hid h2
  clear h1 h2
  go_enter Try.func186, Try.ntmps186
  have k0 : Blk ((w.alloc (.cells #[.slice A1 s.values.length c1, .slice A2 s.heap.length c2] tSt)).alloc (.cells #[.slice none 0 0, .slice none 0 0] tSt)) w.heap.size tSt #[.slice A1 s.values.length c1, .slice A2 s.heap.length c2] := blks
  have kr : Blk ((w.alloc (.cells #[.slice A1 s.values.length c1, .slice A2 s.heap.length c2] tSt)).alloc (.cells #[.slice none 0 0, .slice none 0 0] tSt)) (w.heap.size + 1) tSt #[.slice none 0 0, .slice none 0 0] := blks
  go_wp2_with fail
  refine wp_region_noPanic ?_
  refine wp_region_held_drew (S := (fun w' => ∀ i, w'.cell? ⟨w.heap.size, i, none⟩ = #[.slice A1 s.values.length c1, .slice A2 s.heap.length c2][i]?)) (by kernel_rfl) (Blk.cell blks) (fun hHeld => ?_)
  refine wpAnyH_take (i := 0) (v := ?_) rfl (by kernel_rfl) (by kernel_rfl) (by kernel_rfl) (fun _ _ _ h => h) (Or.inl ⟨by rfl, fun w hSw => ?_⟩) hHeld ?_
  rotate_left
  · ((try dsimp only at hSw); go_split_ands; go_simp; (try with_reducible rfl))
  try simp only [Act.put, List.getElem_toArray, List.getElem_cons_zero, List.getElem_cons_succ, List.setIfInBounds_toArray, List.set_cons_zero, List.set_cons_succ]
  refine wpAnyH_take (i := 1) (v := ?_) rfl (by kernel_rfl) (by kernel_rfl) (by kernel_rfl) (fun _ _ _ h => h) (Or.inl ⟨by rfl, fun w hSw => ?_⟩) hHeld ?_
  rotate_left
  · ((try dsimp only at hSw); go_split_ands; go_simp; (try with_reducible rfl))
  try simp only [Act.put, List.getElem_toArray, List.getElem_cons_zero, List.getElem_cons_succ, List.setIfInBounds_toArray, List.set_cons_zero, List.set_cons_succ]
  refine wpAnyH_take (i := 3) (v := ?_) rfl (by kernel_rfl) (by kernel_rfl) (by kernel_rfl) (fun _ _ _ h => h) (Or.inl ⟨by rfl, fun w hSw => ?_⟩) hHeld ?_
  rotate_left
  · ((try dsimp only at hSw); go_split_ands; go_simp; (try with_reducible rfl))
  try simp only [Act.put, List.getElem_toArray, List.getElem_cons_zero, List.getElem_cons_succ, List.setIfInBounds_toArray, List.set_cons_zero, List.set_cons_succ]
  refine wpAnyH_take (i := 4) (v := ?_) rfl (by kernel_rfl) (by kernel_rfl) (by kernel_rfl) (fun _ _ _ h => h) (Or.inl ⟨by rfl, fun w hSw => ?_⟩) hHeld ?_
  rotate_left
  · ((try dsimp only at hSw); go_split_ands; go_simp; (try with_reducible rfl))
  try simp only [Act.put, List.getElem_toArray, List.getElem_cons_zero, List.getElem_cons_succ, List.setIfInBounds_toArray, List.set_cons_zero, List.set_cons_succ]
  refine wpAnyH_ready (rs := [2]) (by kernel_rfl) (by simp) ?_
  refine AllReadyH.cons rfl (fun K hK => ?_) AllReadyH.nil
  try simp only [List.getElem_toArray, List.getElem_cons_zero, List.getElem_cons_succ]
  (go_simp; refine (c_impl_copyInts A1 c1 s.values _ (H1.out.below bel)).mono ?_; rintro e w1 ⟨r1, rfl, o1, hB1⟩; have hB := bgo (w := w) bel hB1; replace k0 := Blk.next (g := w.heap.size) blks hB1; replace kr := Blk.next (g := w.heap.size + 1) blks hB1)
  refine hK.out _ _ (k0.cell) (fun hHeldN => ?_)
  clear hHeld hK K
  have hHeld := hHeldN
  clear hHeldN
  try simp only [Act.put, List.getElem_toArray, List.getElem_cons_zero, List.getElem_cons_succ, List.setIfInBounds_toArray, List.set_cons_zero, List.set_cons_succ]
  refine wpAnyH_ready (rs := [5]) (by kernel_rfl) (by simp) ?_
  refine AllReadyH.cons rfl (fun K hK => ?_) AllReadyH.nil
  try simp only [List.getElem_toArray, List.getElem_cons_zero, List.getElem_cons_succ]
  (go_simp; refine (c_impl_copyInts A2 c2 s.heap _ (H2.out.below hB)).mono ?_; rintro e w2 ⟨r2, rfl, o2, hB2⟩; have hBB := bgo hB hB2; have hz1 := hB.size; replace k0 := k0.next hB2; replace kr := kr.next hB2)
  refine hK.out _ _ (k0.cell) (fun hHeldN => ?_)
  clear hHeld hK K
  have hHeld := hHeldN
  clear hHeldN
  try simp only [Act.put, List.getElem_toArray, List.getElem_cons_zero, List.getElem_cons_succ, List.setIfInBounds_toArray, List.set_cons_zero, List.set_cons_succ]
  have HD := Lib.hid (show ∀ g, r1.ownBlock = some g → r2.ownBlock ≠ some g from fun g hg e => by
    have := (o1.1.lt g hg).2
    have := (o2.1.lt g e).1
    omega)
  have HO1 := Lib.hid ((o1.below hB2).lower (base' := w.heap.size) (by (try simp) <;> omega))
  have HO2 := Lib.hid (o2.lower (base' := w.heap.size) hz1)
  obtain ⟨F, e1, rfl, -⟩ := o1.reads
  obtain ⟨G, e2, rfl, -⟩ := o2.reads
  clear o1 o2 hB1 hB2
  (replace qkr := kr.cell; replace rkr := kr.frozen; replace lkr := kr.lt)
  refine wpAnyH_take (i := 6) (v := ?_) rfl (by kernel_rfl) (by kernel_rfl) (by kernel_rfl) (fun _ _ _ h => h) (Or.inl ⟨by rfl, fun w hSw => ?_⟩) hHeld ?_
  rotate_left
  · ((try dsimp only at hSw); go_split_ands; go_simp; (try with_reducible rfl))
  try simp only [Act.put, List.getElem_toArray, List.getElem_cons_zero, List.getElem_cons_succ, List.setIfInBounds_toArray, List.set_cons_zero, List.set_cons_succ]
  refine wpAnyH_ready (rs := [7]) (by kernel_rfl) (by simp) ?_
  refine AllReadyH.cons rfl (fun K hK => ?_) AllReadyH.nil
  try simp only [List.getElem_toArray, List.getElem_cons_zero, List.getElem_cons_succ]
  go_simp
  refine hK.out _ _ (Blk.cell blks) (fun hHeldN => ?_)
  clear hHeld hK K
  have hHeld := hHeldN
  clear hHeldN
  try simp only [Act.put, List.getElem_toArray, List.getElem_cons_zero, List.getElem_cons_succ, List.setIfInBounds_toArray, List.set_cons_zero, List.set_cons_succ]
  refine wpAnyH_done (by kernel_rfl) ?_ _
  refine NoPanic.normal ?_
  go_wp2_with fail
  refine bodyPost_ret (v := .agg #[.slice F s.values.length e1, .slice G s.heap.length e2]) (by simp [results, Try.results186, go_sem, qkr]) rfl ⟨_, rfl, ⟨_, _, rfl, ?_, ?_, HD.out⟩, bel⟩
  · exact (HO1.out.setT kr (by decide) 0 _).setT (kr.set_ 0 _) (by decide) 1 _
  · exact (HO2.out.setT kr (by decide) 0 _).setT (kr.set_ 0 _) (by decide) 1 _

--@ impl.Holds
/-- a holds in the whole of s -/
def holdsF (s : Ste) (a : Asn) : Bool := (partOf s a).isSome && (((bitsOf ((partOf s a).getD []) : Nat) : Int) == (bitsOf (usedL s.heap 8) : Nat))
theorem partOf_len {s : Ste} {a : Asn} (h : (partOf s a).isSome = true) : s.heap.length = 8 := by
  unfold partOf at h
  split at h
  · rename_i hv
    simp only [Bool.and_eq_true] at hv
    exact (Ste.valid_len hv.1.1).2
  · cases h
set_option maxRecDepth 100000 in
set_option maxHeartbeats 1600000 in
theorem c_impl_Holds {lo hi lo' hi' : Nat} (v v' : Value) (s : Ste) (a : Asn) (w : World) (h : StateV w lo hi v s) (h' : AsnV w lo' hi' v' a) :
    Calls Try.prog 41 #[v, v'] w fun e w' => e = .returned (.bool (holdsF s a)) ∧ Below w.heap.size w w' := by
  have hV := Lib.hid h
  have hV' := Lib.hid h'
  obtain ⟨A1, c1, A2, c2, rfl, -, -⟩ := h
  obtain ⟨A3, c3, A4, c4, rfl, -, -⟩ := h'
  have HE : Hid (holdsF s a = ((partOf s a).isSome && (((bitsOf ((partOf s a).getD []) : Nat) : Int) == (bitsOf (usedL s.heap 8) : Nat)))) := rfl
  go_enter Try.func41, Try.ntmps41
  have k0 : Blk ((w.alloc (.cells #[.slice A1 s.values.length c1, .slice A2 s.heap.length c2] tSt)).alloc (.cells #[.slice A3 a.facts.length c3, .slice A4 a.atoms.length c4] 48)) w.heap.size tSt #[.slice A1 s.values.length c1, .slice A2 s.heap.length c2] := blks
  go_wp2_with fail
  refine (c_impl_partOf _ _ s a _ (hV.out.below bel) (hV'.out.below bel)).mono ?_
  rintro e w1 ⟨rfl, hB1⟩
  have hB := bgo (w := w) bel hB1
  replace k0 := k0.next hB1
  (replace qk0 := k0.cell; replace rk0 := k0.frozen; replace lk0 := k0.lt)
  clear hB1
  cases hp : (partOf s a).isSome
  · have E : Hid (holdsF s a = false) := by show _ = _; rw [HE.out, hp]; rfl
    clear hp
    go_wp2_with fail
    go_ret
    exact ⟨ret_bool E.out.symm, hB⟩
  · have h8 := Lib.hid (partOf_len hp)
    have E : Hid (holdsF s a = (((bitsOf ((partOf s a).getD []) : Nat) : Int) == (bitsOf (usedL s.heap 8) : Nat))) := by show _ = _; rw [HE.out, hp]; rfl
    clear hp HE
    go_wp2_with fail
    refine (c_impl_usedIn _ s _ (hV.out.below hB) h8.out).mono ?_
    rintro e w2 ⟨rfl, hB2⟩
    go_wp2_with fail
    go_ret
    exact ⟨ret_bool E.out.symm, bgo hB hB2⟩

--@ impl.UsedCells
theorem usedL_step (h : List Int) (k : Nat) : usedL h (k + 1) = usedL h k ++ if allocB h ((k + 1 : Nat) : Int) then [((k + 1 : Nat) : Int)] else [] := by
  unfold usedL
  rw [List.range'_1_concat, List.filter_append, List.map_append, Nat.add_comm 1 k]
  congr 1
  rw [List.filter_cons, List.filter_nil]
  cases allocB h ((k + 1 : Nat) : Int) <;> rfl
theorem usedL_le (h : List Int) (k : Nat) : (usedL h k).length ≤ k := by
  unfold usedL
  rw [List.length_map]
  exact Nat.le_trans (List.length_filter_le _ _) (by simp)
def usedF (s : Ste) : List Int := if s.valid then usedL s.heap 8 else []
set_option maxRecDepth 100000 in
set_option maxHeartbeats 1600000 in
theorem c_impl_UsedCells {lo hi : Nat} (v : Value) (s : Ste) (w : World) (h : StateV w lo hi v s) : Calls Try.prog 138 #[v] w fun e w' => ∃ r, e = .returned r ∧ IntsO w' w.heap.size r (usedF s) ∧ Below w.heap.size w w' := by
  have hV := Lib.hid h
  obtain ⟨A1, c1, A2, c2, rfl, -, -⟩ := h
  have HE : Hid (usedF s = if s.valid then usedL s.heap 8 else []) := rfl
  go_enter Try.func138, Try.ntmps138
  have k0 : Blk (w.alloc (.cells #[.slice A1 s.values.length c1, .slice A2 s.heap.length c2] tSt)) w.heap.size tSt #[.slice A1 s.values.length c1, .slice A2 s.heap.length c2] := blks
  go_wp2_with fail
  refine (c_impl_StateValid _ s _ (hV.out.below bel)).mono ?_
  rintro e w1 ⟨rfl, hB1⟩
  have hB := bgo (w := w) bel hB1
  replace k0 := k0.next hB1
  clear hB1
  cases hv : s.valid
  · have E : Hid (usedF s = []) := by show _ = _; rw [HE.out, hv]; rfl
    clear hv
    go_wp2_with fail
    go_ret
    exact ⟨_, rfl, by rw [E.out]; exact IntsO.nil _ _, hB⟩
  · have h8 := Lib.hid (Ste.valid_len hv).2
    have E : Hid (usedF s = usedL s.heap 8) := by show _ = _; rw [HE.out, hv]; rfl
    clear hv HE
    go_wp2_with fail
    go_loopw [3, 4] (fun u i wr => ∃ (k : Nat) (A : Option Addr) (c : Nat), k ≤ 8 ∧ i = .int .i64 ((k : Int) + 1) ∧ u = .slice A (usedL s.heap k).length c ∧ IntsO wr w.heap.size (.slice A (usedL s.heap k).length c) (usedL s.heap k) ∧ Blk wr w.heap.size tSt #[.slice A1 s.values.length c1, .slice A2 s.heap.length c2] ∧ Hid (Below w.heap.size w wr)) (fun _ i _ => 10 - (intOf i).toNat)
    case atStart => exact ⟨0, none, 0, by omega, rfl, rfl, IntsO.nil _ _, k0, hB⟩
    case round =>
      clear k0 hB
      obtain ⟨k, A, c, hk, rfl, rfl, hO, k0, HB⟩ := hrel
      have HO := Lib.hid hO
      have hsz := HB.out.size
      have HL := Lib.hid (usedL_le s.heap k)
      clear hO
      (replace qk0 := k0.cell; replace rk0 := k0.frozen; replace lk0 := k0.lt)
      by_cases hlt : k < 8
      · have hki : (k : Int) + 1 ≤ 8 := by omega
        go_wp2_with fail
        refine (c_impl_allocated _ s ((k : Int) + 1) _ (hV.out.below HB.out) h8.out).mono ?_
        rintro e w2 ⟨rfl, hB2⟩
        have hB3 : Hid (Below w.heap.size w w2) := bgo HB.out hB2
        have HO2 := Lib.hid (HO.out.below hB2)
        have hsz2 := hB3.out.size
        replace k0 := k0.next hB2
        have HS := Lib.hid (usedL_step s.heap k)
        clear hB2 qk0 rk0 lk0
        cases ha : allocB s.heap ((k : Int) + 1)
        · have E2 : Hid (usedL s.heap (k + 1) = usedL s.heap k) := by show _ = _; rw [HS.out, show ((k + 1 : Nat) : Int) = (k : Int) + 1 from by omega, ha]; simp
          clear ha
          go_wp2_with fail
          go_round
          case rel => exact ⟨k + 1, A, c, by omega, by go_num, by rw [E2.out], by rw [E2.out]; exact HO2.out, k0, hB3.out⟩
          case measure => simp [intOf]; omega
        · have E2 : Hid (usedL s.heap (k + 1) = usedL s.heap k ++ [(k : Int) + 1]) := by show _ = _; rw [HS.out, show ((k + 1 : Nat) : Int) = (k : Int) + 1 from by omega, ha]; simp
          clear ha
          go_wp2_with (at_builtin; refine appIL (ys := [(k : Int) + 1]) (base := w.heap.size) rfl _ _ rfl rfl (HO2.out.below bel) rfl (IntsV.lit (Blk.newE rfl) rfl (by simp)) (by have := HL.out; simp; omega) (by simp; omega) ?_; intro A4 d4 w4 o4 hg4 hB4; have ks4 := Blk.grownO (hg := hg4) (k0.alloc _) (HO2.out.below (bbox (Below.refl _ _) _)).1 (by decide); clear hg4)
          have hBB : Below w.heap.size w w4 := ((hB3.out.alloc hsz2 _).trans hB4)
          go_round
          case rel => exact ⟨k + 1, A4, d4, by omega, by go_num, by rw [E2.out]; simp, by rw [E2.out]; exact o4, ks4, hBB⟩
          case measure => simp [intOf]; omega
      · obtain rfl : k = 8 := by omega
        go_wp2_with fail
        go_ret
        exact ⟨_, rfl, by rw [E.out]; exact HO.out, HB.out⟩
end Go.Proofs.Ytcgifoghggajgaa

/- Running programs: impl's small parts. -/
namespace Go.Proofs.Ytcgifoghggajgaa
open Go Go.RowKit Go.Proofs

--@ impl.machine
abbrev tM : Nat := 142
/-- a machine of our own: it and its state's rows lie in blocks from B on -/
def Mach (w : World) (B g : Nat) (s : Ste) (f : Nat) : Prop := B ≤ g ∧ ∃ fv hv, Blk w g tM #[fv, hv, .int .i64 (f : Int)] ∧ StateO w B (.agg #[fv, hv]) s
theorem Mach.below {w w' : World} {B g f : Nat} {s : Ste} (h : Mach w B g s f) (hb : Below w.heap.size w w') : Mach w' B g s f := by
  obtain ⟨h1, fv, hv, k, o⟩ := h
  exact ⟨h1, fv, hv, k.next hb, o.below hb⟩
theorem Mach.lt {w : World} {B g f : Nat} {s : Ste} (h : Mach w B g s f) : g < w.heap.size := by
  obtain ⟨h1, fv, hv, k, o⟩ := h
  exact k.lt
theorem Mach.form {w : World} {B g f : Nat} {s : Ste} (h : Mach w B g s f) : ∃ F e1 G e2, B ≤ g ∧ Blk w g tM #[.slice F s.values.length e1, .slice G s.heap.length e2, .int .i64 (f : Int)] ∧ IntsO w B (.slice F s.values.length e1) s.values ∧ IntsO w B (.slice G s.heap.length e2) s.heap ∧ (∀ x, (Value.slice F s.values.length e1).ownBlock = some x → (Value.slice G s.heap.length e2).ownBlock ≠ some x) := by
  obtain ⟨h1, fv, hv, k, fv', hv', e, o1, o2, dj⟩ := h
  injection e with e; injection e with e; injection e with ea eb; injection eb with eb; subst ea eb
  obtain ⟨F, e1, rfl, -⟩ := o1.reads
  obtain ⟨G, e2, rfl, -⟩ := o2.reads
  exact ⟨F, e1, G, e2, h1, k, o1, o2, dj⟩
--@ []impl.Cmd
/-- what the machine leaves: all below B and the variables that hold commands -/
structure Rf (B : Nat) (w w' : World) : Prop where
  below : Below B w w'
  size : w.heap.size ≤ w'.heap.size
  boxes : ∀ k cs, Blk w k tC cs → Blk w' k tC cs
section
variable {B : Nat} {w a b : World}
theorem Rf.of (h : Below w.heap.size w a) (hB : B ≤ w.heap.size) : Rf B w a := ⟨btoB h hB, h.size, fun _ _ k => k.next h⟩
theorem Rf.trans (h : Rf B w a) (h2 : Rf B a b) : Rf B w b := ⟨h.below.trans h2.below, Nat.le_trans h.size h2.size, fun k cs hk => h2.boxes k cs (h.boxes k cs hk)⟩
theorem Rf.go (h : Rf B w a) (h2 : Below a.heap.size a b) (hB : B ≤ w.heap.size) : Rf B w b := h.trans (Rf.of h2 (Nat.le_trans hB h.size))
theorem Rf.drew (h : Rf B w a) : Rf B w a.drew := ⟨h.below.drew, h.size, fun k cs hk => (h.boxes k cs hk).drew⟩
theorem Rf.alloc (h : Rf B w a) (hB : B ≤ w.heap.size) (o : Obj) : Rf B w (a.alloc o) := h.go (bbox (Below.refl _ _) o) hB
theorem Rf.set (h : Rf B w a) {p : Addr} {t : TypeId} {cs : Array Value} (hk : Blk a p.block t cs) (ht : t ≠ tC) (hp : B ≤ p.block) (u : Value) : Rf B w (a.setCell p u) :=
  ⟨h.below.setCell hp u, by simpa using h.size, fun k cs' hk' => (h.boxes k cs' hk').far (p := p) ((h.boxes k cs' hk').ne_ hk (Ne.symm ht)) u⟩
end
--@ impl.TestHolds
set_option maxRecDepth 100000 in
set_option maxHeartbeats 1600000 in
theorem c_impl_TestHolds {lo hi : Nat} (v : Value) (s : Ste) (t : Fct) (w : World) (h : StateV w lo hi v s) (hs : s.valid = true) (ht : t.valid = true) : Calls Try.prog 258 #[v, t.val] w fun e w' => e = .returned (.bool (t.holds s.values)) ∧ Below w.heap.size w w' := by
  have hV := Lib.hid h
  obtain ⟨A1, c1, A2, c2, rfl, h1, -⟩ := h
  have HS := Lib.hid hs
  have HT := Lib.hid ht
  have h8 := Lib.hid (Ste.valid_len hs).1
  have hv1 : isTermB t.a = true ∧ isTermB t.b = true := by simpa [Fct.valid] using ht
  have ha := Lib.hid (isTermB_iff.1 hv1.1)
  have hb := Lib.hid (isTermB_iff.1 hv1.2)
  have H1 := Lib.hid h1
  clear hs ht hv1 h1
  obtain ⟨x, hx⟩ : ∃ x, x = tval s.values t.a := ⟨_, rfl⟩
  obtain ⟨y, hy⟩ : ∃ x, x = tval s.values t.b := ⟨_, rfl⟩
  have HR : Hid (t.holds s.values = ((x == y) == t.eq)) := by show _ = _; rw [Fct.holds, ← hx, ← hy]; rfl
  replace hx := Lib.hid hx
  replace hy := Lib.hid hy
  go_enter Try.func258, Try.ntmps258
  go_wp2_with fail
  refine (c_impl_StateValid _ s _ (hV.out.below bel)).mono ?_
  rintro e w1 ⟨rfl, hB1⟩
  rw [HS.out]
  have hB := bgo (w := w) bel hB1
  have k0 : Blk w1 w.heap.size 58 #[.slice A1 s.values.length c1, .slice A2 s.heap.length c2] := Blk.next blks hB1
  have k1 : Blk w1 (w.heap.size + 1) 99 #[.bool t.eq, .int .i64 t.a, .int .i64 t.b] := Blk.next blks hB1
  (replace qk0 := k0.cell; replace rk0 := k0.frozen; replace lk0 := k0.lt; replace qk1 := k1.cell; replace rk1 := k1.frozen; replace lk1 := k1.lt)
  clear hB1
  go_wp2_with fail
  refine (c_impl_FactValid t _).mono ?_
  rintro e w2 ⟨rfl, hB2⟩
  rw [HT.out]
  (replace hB := bgo hB hB2; replace k0 := k0.next hB2; replace qk0 := k0.cell; replace rk0 := k0.frozen; replace lk0 := k0.lt; replace k1 := k1.next hB2; replace qk1 := k1.cell; replace rk1 := k1.frozen; replace lk1 := k1.lt)
  clear hB2
  go_wp2_with fail
  refine wp_region_noPanic ?_
  refine wp_region_held_drew (S := (fun w' => (∀ j, w'.cell? ⟨w.heap.size, j, none⟩ = #[Value.slice A1 s.values.length c1, .slice A2 s.heap.length c2][j]?) ∧ (∀ j, w'.cell? ⟨w.heap.size + 1, j, none⟩ = #[Value.bool t.eq, .int .i64 t.a, .int .i64 t.b][j]?))) (by kernel_rfl) (⟨k0.cell, k1.cell⟩) (fun hHeld => ?_)
  refine wpAnyH_take (i := 0) (v := ?_) rfl (by kernel_rfl) (by kernel_rfl) (by kernel_rfl) (fun _ _ _ h => h) (Or.inl ⟨by rfl, fun w hSw => ?_⟩) hHeld ?_
  rotate_left
  · ((try dsimp only at hSw); go_split_ands; go_simp; (try with_reducible rfl))
  try simp only [Act.put, List.getElem_toArray, List.getElem_cons_zero, List.getElem_cons_succ, List.setIfInBounds_toArray, List.set_cons_zero, List.set_cons_succ]
  refine wpAnyH_take (i := 1) (v := ?_) rfl (by kernel_rfl) (by kernel_rfl) (by kernel_rfl) (fun _ _ _ h => h) (Or.inl ⟨by rfl, fun w hSw => ?_⟩) hHeld ?_
  rotate_left
  · ((try dsimp only at hSw); go_split_ands; go_simp; (try with_reducible rfl))
  try simp only [Act.put, List.getElem_toArray, List.getElem_cons_zero, List.getElem_cons_succ, List.setIfInBounds_toArray, List.set_cons_zero, List.set_cons_succ]
  refine wpAnyH_take (i := 2) (v := ?_) rfl (by kernel_rfl) (by kernel_rfl) (by kernel_rfl) (fun _ _ _ h => h) (Or.inl ⟨by rfl, fun w hSw => ?_⟩) hHeld ?_
  rotate_left
  · ((try dsimp only at hSw); go_split_ands; go_simp; (try with_reducible rfl))
  try simp only [Act.put, List.getElem_toArray, List.getElem_cons_zero, List.getElem_cons_succ, List.setIfInBounds_toArray, List.set_cons_zero, List.set_cons_succ]
  refine wpAnyH_take (i := 3) (v := ?_) rfl (by kernel_rfl) (by kernel_rfl) (by kernel_rfl) (fun _ _ _ h => h) (Or.inl ⟨by rfl, fun w hSw => ?_⟩) hHeld ?_
  rotate_left
  · ((try dsimp only at hSw); go_split_ands; go_simp; (try with_reducible rfl))
  try simp only [Act.put, List.getElem_toArray, List.getElem_cons_zero, List.getElem_cons_succ, List.setIfInBounds_toArray, List.set_cons_zero, List.set_cons_succ]
  refine wpAnyH_take (i := 5) (v := ?_) rfl (by kernel_rfl) (by kernel_rfl) (by kernel_rfl) (fun _ _ _ h => h) (Or.inl ⟨by rfl, fun w hSw => ?_⟩) hHeld ?_
  rotate_left
  · ((try dsimp only at hSw); go_split_ands; go_simp; (try with_reducible rfl))
  try simp only [Act.put, List.getElem_toArray, List.getElem_cons_zero, List.getElem_cons_succ, List.setIfInBounds_toArray, List.set_cons_zero, List.set_cons_succ]
  refine wpAnyH_take (i := 6) (v := ?_) rfl (by kernel_rfl) (by kernel_rfl) (by kernel_rfl) (fun _ _ _ h => h) (Or.inl ⟨by rfl, fun w hSw => ?_⟩) hHeld ?_
  rotate_left
  · ((try dsimp only at hSw); go_split_ands; go_simp; (try with_reducible rfl))
  try simp only [Act.put, List.getElem_toArray, List.getElem_cons_zero, List.getElem_cons_succ, List.setIfInBounds_toArray, List.set_cons_zero, List.set_cons_succ]
  refine wpAnyH_take (i := 7) (v := ?_) rfl (by kernel_rfl) (by kernel_rfl) (by kernel_rfl) (fun _ _ _ h => h) (Or.inl ⟨by rfl, fun w hSw => ?_⟩) hHeld ?_
  rotate_left
  · ((try dsimp only at hSw); go_split_ands; go_simp; (try with_reducible rfl))
  try simp only [Act.put, List.getElem_toArray, List.getElem_cons_zero, List.getElem_cons_succ, List.setIfInBounds_toArray, List.set_cons_zero, List.set_cons_succ]
  refine wpAnyH_take (i := 8) (v := ?_) rfl (by kernel_rfl) (by kernel_rfl) (by kernel_rfl) (fun _ _ _ h => h) (Or.inl ⟨by rfl, fun w hSw => ?_⟩) hHeld ?_
  rotate_left
  · ((try dsimp only at hSw); go_split_ands; go_simp; (try with_reducible rfl))
  try simp only [Act.put, List.getElem_toArray, List.getElem_cons_zero, List.getElem_cons_succ, List.setIfInBounds_toArray, List.set_cons_zero, List.set_cons_succ]
  refine wpAnyH_take (i := 11) (v := ?_) rfl (by kernel_rfl) (by kernel_rfl) (by kernel_rfl) (fun _ _ _ h => h) (Or.inl ⟨by rfl, fun w hSw => ?_⟩) hHeld ?_
  rotate_left
  · ((try dsimp only at hSw); go_split_ands; go_simp; (try with_reducible rfl))
  try simp only [Act.put, List.getElem_toArray, List.getElem_cons_zero, List.getElem_cons_succ, List.setIfInBounds_toArray, List.set_cons_zero, List.set_cons_succ]
  refine wpAnyH_take (i := 12) (v := ?_) rfl (by kernel_rfl) (by kernel_rfl) (by kernel_rfl) (fun _ _ _ h => h) (Or.inl ⟨by rfl, fun w hSw => ?_⟩) hHeld ?_
  rotate_left
  · ((try dsimp only at hSw); go_split_ands; go_simp; (try with_reducible rfl))
  try simp only [Act.put, List.getElem_toArray, List.getElem_cons_zero, List.getElem_cons_succ, List.setIfInBounds_toArray, List.set_cons_zero, List.set_cons_succ]
  refine wpAnyH_ready (rs := [4]) (by kernel_rfl) (by simp) ?_
  refine AllReadyH.cons rfl (fun K hK => ?_) AllReadyH.nil
  try simp only [List.getElem_toArray, List.getElem_cons_zero, List.getElem_cons_succ]
  (go_simp; refine (c_impl_termValue A1 c1 s.values t.a _ (H1.out.below (hB.drew)) ha.out.1 (by rw [h8.out]; exact ha.out.2)).mono ?_; rintro e w3 ⟨rfl, rfl⟩; rw [← hx.out])
  refine hK.out _ _ (⟨k0.cell, k1.cell⟩) (fun hHeldN => ?_)
  clear hHeld hK K
  have hHeld := hHeldN
  clear hHeldN
  try simp only [Act.put, List.getElem_toArray, List.getElem_cons_zero, List.getElem_cons_succ, List.setIfInBounds_toArray, List.set_cons_zero, List.set_cons_succ]
  refine wpAnyH_ready (rs := [9]) (by kernel_rfl) (by simp) ?_
  refine AllReadyH.cons rfl (fun K hK => ?_) AllReadyH.nil
  try simp only [List.getElem_toArray, List.getElem_cons_zero, List.getElem_cons_succ]
  (go_simp; refine (c_impl_termValue A1 c1 s.values t.b _ (H1.out.below (hB.drew)) hb.out.1 (by rw [h8.out]; exact hb.out.2)).mono ?_; rintro e w3 ⟨rfl, rfl⟩; rw [← hy.out])
  refine hK.out _ _ (⟨k0.cell, k1.cell⟩) (fun hHeldN => ?_)
  clear hHeld hK K
  have hHeld := hHeldN
  clear hHeldN
  try simp only [Act.put, List.getElem_toArray, List.getElem_cons_zero, List.getElem_cons_succ, List.setIfInBounds_toArray, List.set_cons_zero, List.set_cons_succ]
  refine wpAnyH_take (i := 10) (v := ?_) rfl (by kernel_rfl) (by kernel_rfl) (by kernel_rfl) (fun _ _ _ h => h) (Or.inl ⟨by rfl, fun w hSw => ?_⟩) hHeld ?_
  rotate_left
  · ((try dsimp only at hSw); go_split_ands; go_simp; (try with_reducible rfl))
  try simp only [Act.put, List.getElem_toArray, List.getElem_cons_zero, List.getElem_cons_succ, List.setIfInBounds_toArray, List.set_cons_zero, List.set_cons_succ]
  refine wpAnyH_take (i := 13) (v := ?_) rfl (by kernel_rfl) (by kernel_rfl) (by kernel_rfl) (fun _ _ _ h => h) (Or.inl ⟨by rfl, fun w hSw => ?_⟩) hHeld ?_
  rotate_left
  · ((try dsimp only at hSw); go_split_ands; go_simp; (try with_reducible rfl))
  try simp only [Act.put, List.getElem_toArray, List.getElem_cons_zero, List.getElem_cons_succ, List.setIfInBounds_toArray, List.set_cons_zero, List.set_cons_succ]
  refine wpAnyH_take (i := 14) (v := ?_) rfl (by kernel_rfl) (by kernel_rfl) (by kernel_rfl) (fun _ _ _ h => h) (Or.inl ⟨by rfl, fun w hSw => ?_⟩) hHeld ?_
  rotate_left
  · ((try dsimp only at hSw); go_split_ands; go_simp; (try with_reducible rfl))
  try simp only [Act.put, List.getElem_toArray, List.getElem_cons_zero, List.getElem_cons_succ, List.setIfInBounds_toArray, List.set_cons_zero, List.set_cons_succ]
  refine wpAnyH_done (by kernel_rfl) ?_ _
  refine NoPanic.normal ?_
  go_wp2_with fail
  go_ret
  exact ⟨ret_bool HR.out.symm, hB.drew⟩
--@ impl.AllocCell
set_option maxRecDepth 100000 in
set_option maxHeartbeats 3200000 in
theorem c_impl_AllocX {lo hi : Nat} (v : Value) (s : Ste) (w : World) (h : StateV w lo hi v s) (hs : s.valid = true) :
    Calls Try.prog 269 #[v] w fun e w' => ((freeK s.heap = none ∧ e = .returned (.tuple #[.agg #[.slice none 0 0, .slice none 0 0], .int .i64 0, .bool false])) ∨ (∃ (k : Nat) (r : Value), freeK s.heap = some k ∧ e = .returned (.tuple #[r, .int .i64 ((k : Int) + 1), .bool true]) ∧ StateO w' w.heap.size r ⟨s.values, s.heap.set k 0⟩)) ∧ Below w.heap.size w w' := by
  have hV := Lib.hid h
  obtain ⟨A1, c1, A2, c2, rfl, -, -⟩ := h
  have HS := Lib.hid hs
  have H8 := Lib.hid (Ste.valid_len hs)
  clear hs
  go_enter Try.func269, Try.ntmps269
  obtain ⟨k0, k1⟩ := blk2 w tSt tSt #[.slice A1 s.values.length c1, .slice A2 s.heap.length c2] #[.slice none 0 0, .slice none 0 0]
  go_wp2_with fail
  refine (c_impl_StateValid _ s _ (hV.out.below bel)).mono ?_
  rintro e w1 ⟨rfl, hB1⟩
  rw [HS.out]
  have hB := bgo (w := w) bel hB1
  (replace k0 := k0.next hB1; replace qk0 := k0.cell; replace rk0 := k0.frozen; replace lk0 := k0.lt; replace k1 := k1.next hB1; replace qk1 := k1.cell; replace rk1 := k1.frozen; replace lk1 := k1.lt)
  clear hB1
  go_wp2_with fail
  go_loopw [5] (fun i wr => ∃ k : Nat, k ≤ 8 ∧ i = .int .i64 ((k : Int) + 1) ∧ Hid (∀ j : Nat, j < k → allocB s.heap ((j : Int) + 1) = true) ∧ Blk wr w.heap.size tSt #[.slice A1 s.values.length c1, .slice A2 s.heap.length c2] ∧ Blk wr (w.heap.size + 1) tSt #[.slice none 0 0, .slice none 0 0] ∧ Hid (Below w.heap.size w wr)) (fun i _ => 10 - (intOf i).toNat)
  case atStart => exact ⟨0, by omega, rfl, Lib.hid (fun j hj => by omega), k0, k1, hB⟩
  case round =>
    clear k0 k1 hB qk0 rk0 lk0 qk1 rk1 lk1
    obtain ⟨k, hk, rfl, HALL, k0, k1, HB⟩ := hrel
    (replace qk0 := k0.cell; replace rk0 := k0.frozen; replace lk0 := k0.lt; replace qk1 := k1.cell; replace rk1 := k1.frozen; replace lk1 := k1.lt)
    have hsz := HB.out.size
    by_cases hlt : k < 8
    · have hki : (k : Int) + 1 ≤ 8 := by omega
      go_wp2_with fail
      refine (c_impl_allocated _ s _ _ (hV.out.below HB.out) H8.out.2).mono ?_
      rintro e w2 ⟨rfl, hB2⟩
      have hB3 : Below w.heap.size w w2 := bgo HB.out hB2
      (replace k0 := k0.next hB2; replace qk0 := k0.cell; replace rk0 := k0.frozen; replace lk0 := k0.lt; replace k1 := k1.next hB2; replace qk1 := k1.cell; replace rk1 := k1.frozen; replace lk1 := k1.lt)
      clear hB2
      cases ha : allocB s.heap ((k : Int) + 1)
      · have HF := Lib.hid (freeK_some hlt ha HALL.out)
        clear ha HALL
        go_wp2_with fail
        refine (c_impl_copyState _ s _ (hV.out.below hB3)).mono ?_
        rintro e w4 ⟨r, rfl, o, hB4⟩
        have hz := hB3.size
        (replace hB3 := bgo hB3 hB4; replace k0 := k0.next hB4; replace qk0 := k0.cell; replace rk0 := k0.frozen; replace lk0 := k0.lt; replace k1 := k1.next hB4; replace qk1 := k1.cell; replace rk1 := k1.frozen; replace lk1 := k1.lt)
        clear hB4
        obtain ⟨fv, av, rfl, o1, o2, dj⟩ := o
        obtain ⟨F, e1, rfl, -⟩ := o1.reads
        obtain ⟨G, e2, rfl, -⟩ := o2.reads
        have hnl : (k : Int) < (s.heap.length : Int) := by have := H8.out.2; omega
        obtain ⟨g, cur, -, rfl, hg, kg, hc, hset⟩ := (o2.lower (base' := w.heap.size) hz).cell_ (k := k) (by omega)
        have q := kg.cell k
        rw [hc] at q
        obtain ⟨y, hy⟩ : ∃ y, y = s.heap[k]'(by omega) := ⟨_, rfl⟩
        rw [← hy] at q
        have f := kg.frozen k
        have hgl := kg.lt
        have HSET := Lib.hid (hset 0)
        have O1 := Lib.hid (o1.lower (base' := w.heap.size) hz)
        have HD := Lib.hid dj
        have hne : w.heap.size + 1 ≠ g := k1.ne_ kg (by decide)
        clear hset o1 o2 dj hc hy
        go_wp2_with fail
        have k6 := k1.far (p := ⟨g, k, none⟩) hne (.int .i64 0)
        refine bodyPost_ret (v := .tuple #[.agg #[.slice F s.values.length e1, .slice (some ⟨g, 0, none⟩) s.heap.length e2], .int .i64 ((k : Int) + 1), .bool true]) (by simp [results, Try.results269, go_sem, qk1, lk1]) rfl ⟨Or.inr ⟨k, _, HF.out, rfl, ⟨_, _, rfl, ?_, ?_, HD.out⟩⟩, ?_⟩
        · exact (((O1.out.set_ne (q := ⟨g, k, none⟩) (fun e => HD.out g e rfl) (.int .i64 0)).setT k6 (by decide) 0 _).setT (k6.set_ 0 _) (by decide) 1 _).below (bbox (Below.refl _ _) _)
        · exact ((HSET.out.setT k6 (by decide) 0 _).setT (k6.set_ 0 _) (by decide) 1 _).below (bbox (Below.refl _ _) _)
        · exact bbox (((hB3.setCell (p := ⟨g, k, none⟩) hg _).setCell (p := ⟨w.heap.size + 1, 0, none⟩) (by simp only; omega) _).setCell (p := ⟨w.heap.size + 1, 1, none⟩) (by simp only; omega) _) _
      · have HA2 : Hid (∀ j : Nat, j < k + 1 → allocB s.heap ((j : Int) + 1) = true) := fun j hj => by
          rcases Nat.lt_or_ge j k with h | h
          · exact HALL.out j h
          · obtain rfl : j = k := by omega
            exact ha
        clear ha HALL
        go_wp2_with fail
        go_round
        case rel => exact ⟨k + 1, by omega, by go_num, HA2, k0, k1, hB3⟩
        case measure => simp [intOf]; omega
    · obtain rfl : k = 8 := by omega
      have hB := HB.out
      have HF := Lib.hid (freeK_none HALL.out)
      clear HALL
      go_wp2_with fail
      refine bodyPost_ret (v := .tuple #[.agg #[.slice none 0 0, .slice none 0 0], .int .i64 0, .bool false]) (by simp [results, Try.results269, go_sem, qk1]) rfl ⟨Or.inl ⟨HF.out, rfl⟩, bel⟩
--@ (*impl.machine).pay
set_option maxHeartbeats 1600000 in
theorem c_impl_pay_no (w : World) (B g : Nat) (s : Ste) (h : Mach w B g s 0) : Calls Try.prog 257 #[.pointer (some ⟨g, 0, none⟩)] w fun e w' => e = .returned (.bool false) ∧ w = w' := by
  obtain ⟨F, e1, G, e2, hBg, k, -, -, -⟩ := h.form
  have q := k.cell 2
  go_enter Try.func257, Try.ntmps257
  go_wp2_with fail
  go_ret
  exact ⟨rfl, rfl⟩
set_option maxHeartbeats 1600000 in
theorem c_impl_pay_yes (w : World) (B g : Nat) (s : Ste) (f : Nat) (h : Mach w B g s (f + 1)) (hf : f ≤ 200) : Calls Try.prog 257 #[.pointer (some ⟨g, 0, none⟩)] w fun e w' => e = .returned (.bool true) ∧ Mach w' B g s f ∧ Rf B w w' := by
  obtain ⟨F, e1, G, e2, hBg, k, o1, o2, dj⟩ := h.form
  have q : w.cell? ⟨g, 2, none⟩ = some (.int .i64 ((f : Int) + 1)) := k.cell 2
  have r := k.frozen 2
  have lt := k.lt
  replace k := Lib.hid k
  replace o1 := Lib.hid o1
  replace o2 := Lib.hid o2
  replace dj := Lib.hid dj
  clear h
  go_enter Try.func257, Try.ntmps257
  go_wp2_with fail
  go_ret
  refine ⟨rfl, ⟨hBg, _, _, k.out.set_ 2 _, _, _, rfl, o1.out.setT k.out (by decide) 2 _, o2.out.setT k.out (by decide) 2 _, dj.out⟩, (Rf.of (Below.refl _ _) (by omega)).set (p := ⟨g, 2, none⟩) k.out (by decide) hBg _⟩
--@
end Go.Proofs.Ytcgifoghggajgaa
