/- Sets as bits of a 16-bit number. Plain lemmas. -/
import Derived.Test.YtcgifoghggajgaaMem
import Derived.Laws.BitsAllLaws
import Derived.Laws.BitsLemmas
set_option linter.unusedSimpArgs false
set_option linter.unusedVariables false
namespace Go.Proofs.Ytcgifoghggajgaa
open Go Go.RowKit
theorem ofInt_u16 (a : Nat) (ha : a < 65536) : (BitVec.ofInt 16 (a : Int)).toNat = a := by
  rw [BitVec.ofInt_natCast, BitVec.toNat_ofNat]; exact Nat.mod_eq_of_lt (by omega)
theorem wrap_u16 (a : Nat) (ha : a < 65536) : IntKind.u16.wrap (a : Int) = a := by
  simp [IntKind.wrap, IntKind.bits, IntKind.signed]; omega
theorem u16_and_nat (a b : Nat) (ha : a < 65536) (hb : b < 65536) : bits .and .u16 (a : Int) (b : Int) = ((a &&& b : Nat) : Int) := by
  have hx : a &&& b < 2 ^ 16 := Nat.and_lt_two_pow _ (by omega)
  show IntKind.u16.wrap ((BitVec.ofInt 16 (a : Int) &&& BitVec.ofInt 16 (b : Int)).toNat : Int) = _
  rw [BitVec.toNat_and, ofInt_u16 a ha, ofInt_u16 b hb, wrap_u16 _ (by omega)]
theorem u16_or_nat (a b : Nat) (ha : a < 65536) (hb : b < 65536) : bits .or .u16 (a : Int) (b : Int) = ((a ||| b : Nat) : Int) := by
  have hx : a ||| b < 2 ^ 16 := Nat.or_lt_two_pow (by omega) (by omega)
  show IntKind.u16.wrap ((BitVec.ofInt 16 (a : Int) ||| BitVec.ofInt 16 (b : Int)).toNat : Int) = _
  rw [BitVec.toNat_or, ofInt_u16 a ha, ofInt_u16 b hb, wrap_u16 _ (by omega)]
/-- 'set>>n&1 == 1' -/
theorem bit_has (S n : Nat) (hS : S < 65536) : (bits .and .u16 ((S : Int) / 2 ^ n) 1 == 1) = S.testBit n := by
  have e : ((S : Int) / 2 ^ n) = ((S / 2 ^ n : Nat) : Int) := by simp
  have hlt : S / 2 ^ n < 65536 := Nat.lt_of_le_of_lt (Nat.div_le_self _ _) hS
  rw [e, show (1 : Int) = ((1 : Nat) : Int) from rfl, u16_and_nat _ _ hlt (by omega)]
  rw [Nat.testBit_eq_decide_div_mod_eq]
  rw [Nat.and_one_is_mod]
  rw [Bool.eq_iff_iff]
  simp only [beq_iff_eq, decide_eq_true_eq]
  omega
/-- 'set | 1<<n' -/
theorem bit_or (T n : Nat) (hT : T < 65536) (hn : n < 16) : bits .or .u16 (T : Int) (IntKind.u16.wrap (2 ^ n)) = ((T ||| 1 <<< n : Nat) : Int) := by
  have h2 : 2 ^ n < 65536 := by
    have : 2 ^ n ≤ 2 ^ 15 := Nat.pow_le_pow_right (by omega) (by omega)
    omega
  have e : (2 : Int) ^ n = ((2 ^ n : Nat) : Int) := by simp
  rw [e, wrap_u16 _ h2, u16_or_nat _ _ hT h2, Nat.one_shiftLeft]

def bitsOf (l : List Int) : Nat := l.foldl (fun s n => s ||| 1 <<< n.toNat) 0
theorem bitsOf_snoc (l : List Int) (n : Int) : bitsOf (l ++ [n]) = bitsOf l ||| 1 <<< n.toNat := by simp [bitsOf, List.foldl_append]
theorem foldl_testBit (l : List Int) (h : ∀ x ∈ l, 0 ≤ x) : ∀ (s n : Nat), (l.foldl (fun s n => s ||| 1 <<< n.toNat) s).testBit n = (s.testBit n || decide ((n : Int) ∈ l)) := by
  induction l with
  | nil => intro s n; simp
  | cons x l ih =>
    intro s n
    rw [List.foldl_cons, ih (fun y hy => h y (List.mem_cons_of_mem _ hy)), Nat.testBit_or]
    have hx := h x List.mem_cons_self
    have e : (1 <<< x.toNat).testBit n = decide ((n : Int) = x) := by
      rw [Nat.one_shiftLeft, Nat.testBit_two_pow, decide_eq_decide]; omega
    rw [e, Bool.or_assoc]
    congr 1
    rw [← Bool.decide_or]
    simp [List.mem_cons]
theorem testBit_bitsOf {l : List Int} (h : ∀ x ∈ l, 0 ≤ x) (n : Nat) : (bitsOf l).testBit n = decide ((n : Int) ∈ l) := by
  rw [bitsOf, foldl_testBit l h]; simp
theorem bitsOf_lt {l : List Int} {k : Nat} (h : ∀ x ∈ l, 0 ≤ x ∧ x < k) : bitsOf l < 2 ^ k := by
  apply Nat.lt_pow_two_of_testBit
  intro i hi
  rw [testBit_bitsOf (fun x hx => (h x hx).1)]
  simp only [decide_eq_false_iff_not]
  intro hm
  have := (h _ hm).2
  omega
theorem bitsOf_eq {l m : List Int} (h : ∀ x ∈ l, 0 ≤ x) (h' : ∀ x ∈ m, 0 ≤ x) : bitsOf l = bitsOf m ↔ ∀ x, x ∈ l ↔ x ∈ m := by
  constructor
  · intro e x
    by_cases hx : 0 ≤ x
    · obtain ⟨n, rfl⟩ := Int.eq_ofNat_of_zero_le hx
      have := congrArg (fun s => Nat.testBit s n) e
      simp only [testBit_bitsOf h, testBit_bitsOf h', decide_eq_decide] at this
      exact this
    · exact ⟨fun hm => absurd (h x hm) hx, fun hm => absurd (h' x hm) hx⟩
  · intro e
    apply Nat.eq_of_testBit_eq
    intro i
    rw [testBit_bitsOf h, testBit_bitsOf h', decide_eq_decide]
    exact e _
end Go.Proofs.Ytcgifoghggajgaa
