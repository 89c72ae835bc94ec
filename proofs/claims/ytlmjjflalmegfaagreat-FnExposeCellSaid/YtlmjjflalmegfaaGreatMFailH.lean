/- Contracts: the spec's first failing case. -/
import Derived.Test.YtlmjjflalmegfaaGreatMatchT
import Derived.Test.YtlmjjflalmegfaaGreatMFailW
import Derived.Test.YtlmjjflalmegfaaGreatMExpA
set_option linter.unusedSimpArgs false
set_option linter.unusedVariables false
namespace Go.Proofs.YtlmjjflalmegfaaGreat
open Go Go.RowKit Go.Proofs
attribute [local go_sem ↓] Go.wp_at_zero Go.wp_at_succ

--@ spec.l6Case
def caseB (a b : Asn) (c : List Int) : Bool := fitsS c b.facts && matchB (filledL a.atoms c) (filledL b.atoms c)
end Go.Proofs.YtlmjjflalmegfaaGreat

/- The two tests of a case agree on the cases. Plain; no program. -/
namespace Go.Proofs.YtlmjjflalmegfaaGreat
open Go

--@ impl.FailingCase
end Go.Proofs.YtlmjjflalmegfaaGreat

/- Contracts: the terms of both. -/
namespace Go.Proofs.YtlmjjflalmegfaaGreat
open Go Go.RowKit Go.Proofs
attribute [local go_sem ↓] Go.wp_at_zero Go.wp_at_succ

--@ spec.l6Both
end Go.Proofs.YtlmjjflalmegfaaGreat

/- Contracts: the spec's search for the first failing case. -/
namespace Go.Proofs.YtlmjjflalmegfaaGreat
open Go Go.RowKit Go.Proofs
attribute [local go_sem ↓] Go.wp_at_zero Go.wp_at_succ

--@ spec.l6Seek
/-- the failing cases behind a beginning -/
def seekF (a b : Asn) (S n : Nat) (c : List Int) : List (List Int) := (seek a S n c).filter fun d => !caseB a b d
def seekFAt (a b : Asn) (S n : Nat) (c : List Int) (k : Nat) : List (List Int) := if k < 8 - n ∧ cl c k ≠ k then [] else seekF a b S n (c.set (8 - n) k)
end Go.Proofs.YtlmjjflalmegfaaGreat

/- Contracts: the spec's FailingCase; Entails. -/
namespace Go.Proofs.YtlmjjflalmegfaaGreat
open Go Go.RowKit Go.Proofs
attribute [local go_sem ↓] Go.wp_at_zero Go.wp_at_succ

def entF (a b : Asn) : Bool := a.valid && b.valid && !(failF a b).isSome
--@ spec.l6Fails
set_option maxRecDepth 100000 in
set_option maxHeartbeats 3200000 in
theorem c_impl_Entails {lo hi lo' hi' : Nat} (v v' : Value) (a b : Asn) (w : World) (h : AsnV w lo hi v a) (h' : AsnV w lo' hi' v' b) (hhi : hi ≤ w.heap.size) (hhi' : hi' ≤ w.heap.size) :
    Calls Tryz.prog 13 #[v, v'] w fun e w' => e = .returned (.bool (entF a b)) ∧ Below w.heap.size w w' := by
  have hV := Lib.hid h
  have hV' := Lib.hid h'
  obtain ⟨A1, c1, A2, c2, rfl, -, -⟩ := h
  obtain ⟨A3, c3, A4, c4, rfl, -, -⟩ := h'
  go_enter Tryz.func13, Tryz.ntmps13
  have k0 : Blk ((w.alloc (.cells #[.slice A1 a.facts.length c1, .slice A2 a.atoms.length c2] tAs)).alloc (.cells #[.slice A3 b.facts.length c3, .slice A4 b.atoms.length c4] tAs)) w.heap.size tAs #[.slice A1 a.facts.length c1, .slice A2 a.atoms.length c2] := blks
  have k1 : Blk ((w.alloc (.cells #[.slice A1 a.facts.length c1, .slice A2 a.atoms.length c2] tAs)).alloc (.cells #[.slice A3 b.facts.length c3, .slice A4 b.atoms.length c4] tAs)) (w.heap.size + 1) tAs #[.slice A3 b.facts.length c3, .slice A4 b.atoms.length c4] := blks
  go_wp2_with fail
  refine (c_impl_AssertionValid _ a _ (hV.out.below bel)).mono ?_
  rintro e w1 ⟨rfl, hB1⟩
  have hB : Below w.heap.size w w1 := bgo (w := w) bel hB1
  replace k0 := k0.next hB1
  replace k1 := k1.next hB1
  (replace qk0 := k0.cell; replace rk0 := k0.frozen; replace lk0 := k0.lt; replace qk1 := k1.cell; replace rk1 := k1.frozen; replace lk1 := k1.lt)
  clear hB1
  cases ha : a.valid
  · have E : Hid (entF a b = false) := by show _ = _; simp [entF, ha]
    clear ha
    go_wp2_with fail
    go_ret
    exact ⟨ret_bool E.out.symm, hB⟩
  · have HA := Lib.hid ha
    clear ha
    go_wp2_with fail
    refine (c_impl_AssertionValid _ b _ (hV'.out.below hB)).mono ?_
    rintro e w2 ⟨rfl, hB2⟩
    replace hB := bgo hB hB2
    replace k0 := k0.next hB2
    replace k1 := k1.next hB2
    (replace qk0 := k0.cell; replace rk0 := k0.frozen; replace lk0 := k0.lt; replace qk1 := k1.cell; replace rk1 := k1.frozen; replace lk1 := k1.lt)
    clear hB2
    cases hb : b.valid
    · have E : Hid (entF a b = false) := by show _ = _; simp [entF, hb]
      clear hb
      go_wp2_with fail
      go_ret
      exact ⟨ret_bool E.out.symm, hB⟩
    · have HB := Lib.hid hb
      have hz := hB.size
      have E : Hid (entF a b = (failF a b).isNone) := by show _ = _; rw [entF, HA.out, hb]; cases failF a b <;> rfl
      clear hb
      go_wp2_with fail
      refine (c_impl_failingCase _ _ a b _ (hV.out.below hB) (hV'.out.below hB) (by omega) (by omega) HA.out HB.out).mono ?_
      rintro e w3 ⟨rfl, hB3⟩
      replace hB := bgo hB hB3
      clear hB3 k0 k1 qk0 qk1 rk0 rk1 lk0 lk1
      go_wp2_with fail
      go_ret
      exact ⟨ret_bool E.out.symm, bel⟩
end Go.Proofs.YtlmjjflalmegfaaGreat
