/- Contracts: framed contracts: copies, disjoint sets. -/
import Derived.Test.YtmjgcdolnkdfoaaStar
import Derived.Test.YtmjgcdolnkdfoaaTerm
import Derived.Laws.CopyOwn
set_option linter.unusedSimpArgs false
set_option linter.unusedVariables false
namespace Go.Proofs.Ytmjgcdolnkdfoaa
open Go Go.RowKit Go.Proofs
attribute [local go_sem ↓] Go.wp_at_zero Go.wp_at_succ

--@ impl.copyInts
set_option maxRecDepth 100000 in
set_option maxHeartbeats 800000 in
theorem c_impl_copyInts {lo hi : Nat} (A : Option Addr) (c : Nat) (xs : List Int) (w : World) (h : IntsV w lo hi A xs) : Calls Try.prog 130 #[.slice A xs.length c] w fun e w' => ∃ r, e = .returned r ∧ IntsO w' w.heap.size r xs ∧ Below w.heap.size w w' := by
  have hl := h.le
  have hmk := mkI xs.length h.lim
  have hb0 : Below w.heap.size w (w.alloc (.cells (madeCells #[.int .i64 0] (xs.length)) tI)) := bel
  have hV := Lib.hid (h.below hb0)
  go_enter Try.func130, Try.ntmps130
  go_wp2_with (with_reducible refine wpList_copy_splice rfl _ _ 29 29 rfl tI Try.underlying29 (by kernel_rfl) (some ⟨w.heap.size, 0, none⟩) A xs.length xs.length xs.length c rfl rfl w.heap.size 0 (madeCells #[.int .i64 0] (xs.length)).toList tI ?c1 (encI xs) ?c2 ?c3 ?c4 (encI_one _) w.heap.size w hb0 (Nat.le_refl _) ?_)
  case c1 => simpa using heap_alloc_new w (.cells (madeCells #[.int .i64 0] xs.length) tI)
  case c2 => simp
  case c3 =>
    intro h0
    obtain ⟨b, o, rfl, _, _, hc⟩ := hV.out.raw.2 (by simpa using h0)
    exact ⟨_, rfl, fun j u hu => by
      rw [show (⟨b, o, none⟩ : Addr).add j = ⟨b, o + j, none⟩ from by unfold Addr.add; split <;> simp_all]
      exact hc j _ (by rw [List.getElem?_map, hu]; rfl)⟩
  case c4 => simp [size_madeCells]
  intro w' hH hB
  clear hmk
  go_wp2
  go_ret
  have hs := hH.out
  rw [show splice (madeCells #[Value.int .i64 0] (xs.length)).toList 0 (encI xs) = encI xs from by simp [splice, size_madeCells]] at hs
  exact ⟨_, rfl, ⟨own_of_blk (cap := xs.length) hs (Nat.le_refl _) (by simp) (by intro j hj; simp) (Nat.le_refl _) (by unfold maxLen; omega) (by simp), h.lim⟩, hB⟩

--@ spec.l11Free
def disjB (T C : Nat) : Bool := (List.range 9).all fun n => !(T.testBit n && C.testBit n)
theorem disjB_iff {T C : Nat} (hT : T < 512) : (C &&& T = 0) ↔ disjB T C = true := by
  unfold disjB
  rw [List.all_eq_true]
  constructor
  · intro h n _
    have := congrArg (fun s => Nat.testBit s n) h
    simp only [Nat.testBit_and, Nat.zero_testBit] at this
    rw [Bool.and_comm, this]; rfl
  · intro h
    apply Nat.eq_of_testBit_eq
    intro n
    rw [Nat.testBit_and, Nat.zero_testBit]
    by_cases hn : n < 9
    · have hq := h n (List.mem_range.mpr hn)
      cases h1 : T.testBit n <;> cases h2 : C.testBit n <;> simp_all
    · have : T.testBit n = false := Nat.testBit_lt_two_pow (Nat.lt_of_lt_of_le hT (Nat.pow_le_pow_right (n := 2) (by decide) (show 9 ≤ n by omega)))
      rw [this, Bool.and_false]

set_option maxRecDepth 100000 in
set_option maxHeartbeats 1600000 in
theorem c_spec_l11Free {lo hi lo' hi' : Nat} (v : Value) (a : Asn) (B : Option Addr) (c C : Nat) (w : World) (h : AsnV w lo hi v a) (h' : BoolsV w lo' hi' B (flagsOf C)) (hv : a.valid = true) :
    Calls Try.prog 123 #[v, .slice B 9 c] w fun e w' => e = .returned (.bool (disjB (tset (termsL a)) C)) ∧ Below w.heap.size w w' := by
  have hV := Lib.hid h
  have HT := Lib.hid (termsL_ok hv)
  have h'' := Lib.hid h'
  obtain ⟨pb, ob, rfl, lpb⟩ := flags_addr h'
  obtain ⟨A1, c1, A2, c2, rfl, h1, h2⟩ := h
  clear hv
  go_enter Try.func123, Try.ntmps123
  go_wp2_with fail
  refine (c_spec_l3Terms _ a _ (hV.out.below bel) HT.out).mono ?_
  rintro e w1 ⟨r, rfl, oT, hB1⟩
  have hB := bgo (w := w) bel hB1
  have fC := h''.out.below hB
  generalize hTe : tset (termsL a) = T at oT
  have HTE := Lib.hid hTe
  clear hTe
  obtain ⟨Tb, ct, rfl, fT⟩ := oT.reads
  rw [flagsOf_length]
  obtain ⟨pt, ot, rfl, lpt⟩ := flags_addr fT
  clear hB1 oT h' h''
  have HD : Hid (disjB T C = (List.range 9).all fun n => !(T.testBit n && C.testBit n)) := rfl
  go_wp2_with fail
  go_loop [6] (fun i => ∃ k : Nat, k ≤ 9 ∧ i = .int .i64 k ∧ Hid (disjB T C = ((List.range 9).drop k).all fun n => !(T.testBit n && C.testBit n))) (fun i => 9 - (intOf i).toNat)
  case atStart => exact ⟨0, by omega, rfl, HD.out⟩
  case round =>
    obtain ⟨k, hk, rfl, HA⟩ := hrel
    by_cases hlt : k < 9
    · have HN : Hid (((List.range 9).drop k).all (fun n => !(T.testBit n && C.testBit n)) = (!(T.testBit k && C.testBit k) && ((List.range 9).drop (k + 1)).all fun n => !(T.testBit n && C.testBit n))) := by
        show _ = _
        rw [all_drop _ (List.range 9) k (by simpa using hlt)]; simp
      have f1 := flags_at fT (m := k) (by omega)
      have f2 := flags_at fC (m := k) (by omega)
      have k9 : (k : Int) < 9 := by omega
      cases ht : T.testBit k
      · rw [ht] at f1
        have HZ := Lib.hid ht
        clear ht
        go_wp2_with fail
        go_round
        case rel => exact ⟨k + 1, by omega, by go_num, by show _ = _; rw [HA.out, HN.out, HZ.out]; rfl⟩
        case measure => simp [intOf]; omega
      · cases hc : C.testBit k
        all_goals
          rw [ht] at f1
          rw [hc] at f2
          have HZ := Lib.hid ht
          have HC := Lib.hid hc
          clear ht hc
          go_wp2_with fail
        · go_round
          case rel => exact ⟨k + 1, by omega, by go_num, by show _ = _; rw [HA.out, HN.out, HZ.out, HC.out]; rfl⟩
          case measure => simp [intOf]; omega
        · go_ret
          exact ⟨ret_bool (by rw [HTE.out, HA.out, HN.out, HZ.out, HC.out]; rfl), hB⟩
    · obtain rfl : k = 9 := by omega
      go_wp2_with fail
      go_ret
      exact ⟨ret_bool (by rw [HTE.out, HA.out]; rfl), hB⟩
end Go.Proofs.Ytmjgcdolnkdfoaa
