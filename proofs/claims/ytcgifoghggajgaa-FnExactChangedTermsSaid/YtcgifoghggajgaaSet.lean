/- Sets of terms. -/
import Derived.Test.YtcgifoghggajgaaVal
import Derived.Test.YtcgifoghggajgaaApp
import Derived.Test.YtcgifoghggajgaaBits
set_option linter.unusedSimpArgs false
set_option linter.unusedVariables false
namespace Go.Proofs.Ytcgifoghggajgaa
open Go Go.RowKit Go.Proofs

theorem isTermB_iff {x : Int} : isTermB x = true ↔ 0 ≤ x ∧ x ≤ 8 := by simp [isTermB]
@[irreducible] def tins (S : Nat) (t : Int) : Nat := if isTermB t then S ||| 1 <<< t.toNat else S
theorem tins_lt {S : Nat} (h : S < 512) (t : Int) : tins S t < 512 := by
  unfold tins
  split
  · rename_i ht
    have ht := isTermB_iff.1 ht
    rw [Nat.one_shiftLeft]
    exact Nat.or_lt_two_pow (n := 9) h (by
      have : (2 : Nat) ^ t.toNat ≤ 2 ^ 8 := Nat.pow_le_pow_right (by omega) (by omega)
      omega)
  · exact h
theorem tins_bit (S : Nat) (t : Int) (n : Nat) : (tins S t).testBit n = (S.testBit n || decide (isTermB t = true ∧ t = (n : Int))) := by
  unfold tins
  split
  · rename_i ht
    have hb := isTermB_iff.1 ht
    rw [Nat.testBit_or, Nat.one_shiftLeft, Nat.testBit_two_pow]
    congr 1
    rw [decide_eq_decide]
    constructor
    · intro e; exact ⟨ht, by omega⟩
    · intro e; omega
  · rename_i ht
    simp [ht]
def tset (l : List Int) : Nat := l.foldl tins 0
theorem foldl_tins_lt (l : List Int) : ∀ {S : Nat}, S < 512 → l.foldl tins S < 512 := by
  induction l with
  | nil => intro S h; exact h
  | cons x l ih => intro S h; exact ih (tins_lt h x)
theorem tset_lt (l : List Int) : tset l < 512 := foldl_tins_lt l (by decide)
theorem foldl_tins_bit (l : List Int) : ∀ (S n : Nat), (l.foldl tins S).testBit n = (S.testBit n || decide (isTermB (n : Int) = true ∧ (n : Int) ∈ l)) := by
  induction l with
  | nil => intro S n; simp
  | cons x l ih =>
    intro S n
    rw [List.foldl_cons, ih, tins_bit, Bool.or_assoc]
    congr 1
    rw [← Bool.decide_or, decide_eq_decide]
    constructor
    · rintro (⟨h, rfl⟩ | ⟨h, hm⟩)
      · exact ⟨h, List.mem_cons_self⟩
      · exact ⟨h, List.mem_cons_of_mem _ hm⟩
    · rintro ⟨h, hm⟩
      rcases List.mem_cons.1 hm with e | hm
      · exact Or.inl ⟨e ▸ h, e.symm⟩
      · exact Or.inr ⟨h, hm⟩
theorem tset_bit (l : List Int) (n : Nat) : (tset l).testBit n = decide (isTermB (n : Int) = true ∧ (n : Int) ∈ l) := by
  rw [tset, foldl_tins_bit]; simp
def factT (f : Fct) : List Int := [f.a, f.b]
def atomT (x : Atm) : List Int := [x.a, x.b]
def termsL (a : Asn) : List Int := a.facts.flatMap factT ++ a.atoms.flatMap atomT

attribute [irreducible] tset

--@ (impl.termSet).with
theorem c_impl_with (S : Nat) (t : Int) (w : World) (hS : S < 512) : Calls Try.prog 146 #[.int .u16 S, .int .i64 t] w fun e w' => e = .returned (.int .u16 (tins S t)) ∧ w = w' := by
  cases ht : isTermB t
  · go_enter Try.func146, Try.ntmps146
    go_wp2_with (go_at_call 115; refine (c_impl_isTerm _ _).mono ?_; rintro e w' ⟨rfl, rfl⟩)
    go_ret
    exact ⟨by rw [tins, ht]; rfl, rfl⟩
  · have hb := isTermB_iff.1 ht
    have HT := Lib.hid ht
    obtain ⟨m, rfl⟩ := Int.eq_ofNat_of_zero_le hb.1
    go_enter Try.func146, Try.ntmps146
    go_wp2_with (go_at_call 115; refine (c_impl_isTerm _ _).mono ?_; rintro e w' ⟨rfl, rfl⟩)
    go_ret
    refine ⟨?_, rfl⟩
    have e := bit_or S m (by omega) (by omega)
    rw [tins, HT.out, if_pos rfl, Int.toNat_natCast, ← e]
    simp

--@ (impl.termSet).has
theorem c_impl_tHas (S : Nat) (t : Int) (w : World) (hS : S < 512) : Calls Try.prog 147 #[.int .u16 S, .int .i64 t] w fun e w' => e = .returned (.bool (isTermB t && S.testBit t.toNat)) ∧ w = w' := by
  cases ht : isTermB t
  · go_enter Try.func147, Try.ntmps147
    go_wp2_with (go_at_call 115; refine (c_impl_isTerm _ _).mono ?_; rintro e w' ⟨rfl, rfl⟩)
    go_ret
    exact ⟨rfl, rfl⟩
  · have hb := isTermB_iff.1 ht
    have HT := Lib.hid ht
    obtain ⟨m, rfl⟩ := Int.eq_ofNat_of_zero_le hb.1
    have hbit := bit_has S m (by omega)
    go_enter Try.func147, Try.ntmps147
    go_wp2_with (go_at_call 115; refine (c_impl_isTerm _ _).mono ?_; rintro e w' ⟨rfl, rfl⟩)
    go_ret
    refine ⟨?_, rfl⟩
    exact ret_bool (by simp)

--@ impl.termsIn
theorem foldl_step {α : Type} (f : Nat → α → Nat) (S : Nat) (xs : List α) (k : Nat) (hk : k < xs.length) : (xs.drop k).foldl f S = (xs.drop (k + 1)).foldl f (f S xs[k]) := by
  rw [List.drop_eq_getElem_cons hk]; rfl
theorem tset_terms (a : Asn) : tset (termsL a) = (a.atoms.foldl (fun S x => tins (tins S x.a) x.b) (a.facts.foldl (fun S f => tins (tins S f.a) f.b) 0)) := by
  have h1 : ∀ (fs : List Fct) (S : Nat), (fs.flatMap factT).foldl tins S = fs.foldl (fun S f => tins (tins S f.a) f.b) S := by
    intro fs; induction fs with
    | nil => intro S; rfl
    | cons f fs ih => intro S; rw [List.flatMap_cons, List.foldl_append, ih]; rfl
  have h2 : ∀ (fs : List Atm) (S : Nat), (fs.flatMap atomT).foldl tins S = fs.foldl (fun S f => tins (tins S f.a) f.b) S := by
    intro fs; induction fs with
    | nil => intro S; rfl
    | cons f fs ih => intro S; rw [List.flatMap_cons, List.foldl_append, ih]; rfl
  rw [tset, termsL, List.foldl_append, h1, h2]
set_option maxRecDepth 100000 in
set_option maxHeartbeats 1600000 in
theorem c_impl_termsIn {lo hi : Nat} (v : Value) (a : Asn) (w : World) (h : AsnV w lo hi v a) : Calls Try.prog 151 #[v] w fun e w' => e = .returned (.int .u16 (tset (termsL a))) ∧ Below w.heap.size w w' := by
  obtain ⟨A1, c1, A2, c2, rfl, h1, h2⟩ := h
  have hl1 := h1.le
  have hl2 := h2.le
  have HT := Lib.hid (tset_terms a)
  go_enter Try.func151, Try.ntmps151
  go_wp2
  go_loopw [3, 11] (fun S i wr => ∃ (k T : Nat), k ≤ a.facts.length ∧ i = .int .i64 k ∧ S = .int .u16 T ∧ T < 512 ∧ Hid (a.facts.foldl (fun S f => tins (tins S f.a) f.b) 0 = (a.facts.drop k).foldl (fun S f => tins (tins S f.a) f.b) T) ∧ Blk wr w.heap.size 48 #[.slice A1 a.facts.length c1, .slice A2 a.atoms.length c2] ∧ Below w.heap.size w wr) (fun _ i _ => a.facts.length - (intOf i).toNat)
  case atStart => exact ⟨0, 0, Nat.zero_le _, rfl, rfl, by decide, rfl, blks, bel⟩
  case round =>
    obtain ⟨k, T, hk, rfl, rfl, hT, HA, hK, hB⟩ := hrel
    by_cases hlt : k < a.facts.length
    · obtain ⟨b, off, rfl, g0, g1, g2⟩ := (h1.below hB).at hlt
      have HD := Lib.hid (foldl_step (fun S (f : Fct) => tins (tins S f.a) f.b) T a.facts k hlt)
      have hT1 := tins_lt hT a.facts[k].a
      have hT2 := tins_lt hT1 a.facts[k].b
      go_wp2_with fail
      go_quiet ((go_at_call 146; exact Calls.quiet_of_same ((c_impl_with _ _ _ (by assumption)).mono fun _ _ ⟨a, b⟩ => ⟨a, b.symm⟩)))
      go_wp2_with fail
      go_round
      case rel => exact ⟨k + 1, _, by omega, by go_num, rfl, hT2, by show _ = _; rw [HA.out, HD.out], (hK.alloc _).drewN _, below_drewN (bbox hB _) _⟩
      case measure => simp [intOf]; omega
    · obtain rfl : k = a.facts.length := by omega
      have q := hK.cell
      go_wp2_with fail
      have HA2 := Lib.hid (show a.facts.foldl (fun S f => tins (tins S f.a) f.b) 0 = T by rw [HA.out, List.drop_length]; rfl)
      go_loopw [3, 26] (fun S i wx => ∃ (k T' : Nat), k ≤ a.atoms.length ∧ i = .int .i64 k ∧ S = .int .u16 T' ∧ T' < 512 ∧ Hid (a.atoms.foldl (fun S f => tins (tins S f.a) f.b) T = (a.atoms.drop k).foldl (fun S f => tins (tins S f.a) f.b) T') ∧ Below w.heap.size w wx) (fun _ i _ => a.atoms.length - (intOf i).toNat)
      case atStart => exact ⟨0, T, Nat.zero_le _, rfl, rfl, hT, rfl, hB⟩
      case round =>
        clear hK q hB
        obtain ⟨k, T', hk, rfl, rfl, hT', HB, hB⟩ := hrel
        by_cases hlt2 : k < a.atoms.length
        · obtain ⟨b, off, rfl, g0, g1, g2⟩ := (h2.below hB).at hlt2
          have HD := Lib.hid (foldl_step (fun S (f : Atm) => tins (tins S f.a) f.b) T' a.atoms k hlt2)
          have hT1 := tins_lt hT' a.atoms[k].a
          have hT2 := tins_lt hT1 a.atoms[k].b
          go_wp2_with fail
          go_quiet ((go_at_call 146; exact Calls.quiet_of_same ((c_impl_with _ _ _ (by assumption)).mono fun _ _ ⟨a, b⟩ => ⟨a, b.symm⟩)))
          go_wp2_with fail
          go_round
          case rel => exact ⟨k + 1, _, by omega, by go_num, rfl, hT2, by show _ = _; rw [HB.out, HD.out], below_drewN (bbox hB _) _⟩
          case measure => simp [intOf]; omega
        · obtain rfl : k = a.atoms.length := by omega
          go_wp2_with fail
          go_ret
          refine ⟨?_, hB⟩
          rw [HT.out, HA2.out, HB.out, List.drop_length]; rfl

--@ impl.setOfTerms
set_option maxHeartbeats 800000 in
theorem c_impl_setOfTerms {lo hi : Nat} (A : Option Addr) (c : Nat) (xs : List Int) (w : World) (h : IntsV w lo hi A xs) : Calls Try.prog 117 #[.slice A xs.length c] w fun e w' => e = .returned (.int .u16 (tset xs)) ∧ Below w.heap.size w w' := by
  have hl := h.le
  have HT : Hid (tset xs = xs.foldl tins 0) := by show _ = _; unfold tset; rfl
  go_enter Try.func117, Try.ntmps117
  go_wp2
  go_loop [3, 8] (fun S i => ∃ (k T : Nat), k ≤ xs.length ∧ i = .int .i64 k ∧ S = .int .u16 T ∧ T < 512 ∧ Hid (tset xs = (xs.drop k).foldl tins T)) (fun _ i => xs.length - (intOf i).toNat)
  case atStart => exact ⟨0, 0, Nat.zero_le _, rfl, rfl, by decide, HT.out⟩
  case round =>
    obtain ⟨k, T, hk, rfl, rfl, hT, HA⟩ := hrel
    by_cases hlt : k < xs.length
    · obtain ⟨b, off, rfl, g0⟩ := h.at hlt
      have HD := Lib.hid (foldl_step tins T xs k hlt)
      have hT1 := tins_lt hT xs[k]
      go_wp2_with (go_at_call 146; refine (c_impl_with _ _ _ (by assumption)).mono ?_; rintro e w' ⟨rfl, rfl⟩)
      go_round
      case rel => exact ⟨k + 1, _, by omega, by go_num, rfl, hT1, by show _ = _; rw [HA.out, HD.out]⟩
      case measure => simp [intOf]; omega
    · obtain rfl : k = xs.length := by omega
      go_wp2
      go_ret
      exact ⟨by rw [HA.out, List.drop_length]; rfl, Below.refl _ _⟩
end Go.Proofs.Ytcgifoghggajgaa
