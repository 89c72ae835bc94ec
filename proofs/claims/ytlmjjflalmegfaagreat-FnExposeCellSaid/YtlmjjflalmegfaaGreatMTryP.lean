/- An assertion entails its tidied form, and the tidied form has no further terms. Plain; no program. -/
import Derived.Test.YtlmjjflalmegfaaGreatMAsnSS
import Derived.Test.YtlmjjflalmegfaaGreatMFailH
import Derived.Test.YtlmjjflalmegfaaGreatMTlist
import Derived.Test.YtlmjjflalmegfaaGreatMSlHas
import Derived.Test.YtlmjjflalmegfaaGreatMDefS
import Derived.BigQuiet
import Derived.Deep.QuietTactic
import Derived.Test.YtlmjjflalmegfaaGreatMExpL
import Derived.Test.YtlmjjflalmegfaaGreatMWoS
set_option linter.unusedSimpArgs false
set_option linter.unusedVariables false
namespace Go.Proofs.YtlmjjflalmegfaaGreat
open Go Go.RowKit

/-! the filled atoms stay the same -/
/-! separated atoms describe themselves -/
def firstU (n i : Nat) : List Bool := List.replicate i true ++ List.replicate (n - i) false
/-! no further terms -/
/-- the terms of a valid assertion in ascending order; none of another one -/
def atermsL (a : Asn) : List Int := if a.valid then ((List.range 9).filter fun n => (tset (termsL a)).testBit n).map fun n : Nat => (n : Int) else []
theorem atermsL_mem {a : Asn} (hv : a.valid = true) {s : Int} : s ∈ atermsL a ↔ ∃ n : Nat, n < 9 ∧ (tset (termsL a)).testBit n = true ∧ (n : Int) = s := by
  unfold atermsL
  rw [if_pos hv]
  simp [and_assoc]
end Go.Proofs.YtlmjjflalmegfaaGreat

/- Contracts: the list of the terms of an assertion; the laws' search of a list. -/
namespace Go.Proofs.YtlmjjflalmegfaaGreat
open Go Go.RowKit Go.Proofs
attribute [local go_sem ↓] Go.wp_at_zero Go.wp_at_succ

--@ impl.AssertionTerms
set_option maxRecDepth 100000 in
set_option maxHeartbeats 3200000 in
theorem c_impl_AssertionTerms {lo hi : Nat} (v : Value) (a : Asn) (w : World) (h : AsnV w lo hi v a) :
    Calls Tryz.prog 65 #[v] w fun e w' => ∃ r, e = .returned r ∧ IntsO w' w.heap.size r (atermsL a) ∧ Below w.heap.size w w' := by
  have hV := Lib.hid h
  obtain ⟨A1, c1, A2, c2, rfl, -, -⟩ := h
  go_enter Tryz.func65, Tryz.ntmps65
  have k0 : Blk (w.alloc (.cells #[.slice A1 a.facts.length c1, .slice A2 a.atoms.length c2] tAs)) w.heap.size tAs #[.slice A1 a.facts.length c1, .slice A2 a.atoms.length c2] := blks
  go_wp2_with fail
  refine (c_impl_AssertionValid _ a _ (hV.out.below bel)).mono ?_
  rintro e w1 ⟨rfl, hB1⟩
  have hB : Below w.heap.size w w1 := bgo (w := w) bel hB1
  replace k0 := k0.next hB1
  (replace qk0 := k0.cell; replace rk0 := k0.frozen; replace lk0 := k0.lt)
  clear hB1
  have hz := hB.size
  cases ha : a.valid
  · have E : Hid (atermsL a = []) := by show _ = _; simp [atermsL, ha]
    clear ha
    go_wp2_with fail
    go_ret
    exact ⟨_, rfl, by rw [E.out]; exact IntsO.nil _ _, bel⟩
  · have E : Hid (atermsL a = tlistL (tset (termsL a)) 9) := by show _ = _; simp [atermsL, ha, tlistL]
    clear ha
    go_wp2_with fail
    refine (c_impl_termsIn _ a _ (hV.out.below hB)).mono ?_
    rintro e w2 ⟨rfl, hB2⟩
    replace hB := bgo hB hB2
    replace k0 := k0.next hB2
    clear hB2
    go_wp2_with fail
    refine (c_impl_termList (tset (termsL a)) _ (tset_lt _)).mono ?_
    rintro e w3 ⟨r, rfl, o3, hB3⟩
    have O3 := Lib.hid (o3.lower hB.size)
    replace hB := bgo hB hB3
    clear hB3 o3 k0 qk0 rk0 lk0
    go_wp2_with fail
    go_ret
    exact ⟨r, rfl, by rw [E.out]; exact O3.out, hB⟩

--@
end Go.Proofs.YtlmjjflalmegfaaGreat

/- Values for new variables: the law's own search (slTry, slSome). Plain; no program. -/
namespace Go.Proofs.YtlmjjflalmegfaaGreat
open Go Go.RowKit

def setS (s : Ste) (t v : Int) : Ste := ⟨s.values.set (t - 1).toNat v, s.heap⟩
/-- a holds for some values of the terms from t on that are not used; n terms are left -/
def tryF (a : Asn) (used : List Int) : Nat → Ste → Int → Bool
  | 0, s, _ => holdsF s a
  | n + 1, s, t => if decide (t ∈ used) || !decide (t ∈ atermsL a) then tryF a used n s (t + 1) else (List.range 9).any fun v => tryF a used n (setS s t (v : Int)) (t + 1)
def someF (s : Ste) (l : List Asn) (used : List Int) : Bool := l.any fun a => tryF a used 4 s 5
theorem atermsL_len (a : Asn) : (atermsL a).length ≤ 1000 := by
  unfold atermsL
  split
  · rw [List.length_map]
    exact Nat.le_trans (List.length_filter_le _ _) (by simp)
  · simp
theorem tval_ext {us vs : List Int} (hu : us.length = 8) (hv : vs.length = 8) (h : ∀ t : Int, 1 ≤ t → t ≤ 8 → tval us t = tval vs t) : us = vs := by
  apply List.ext_getElem (by omega)
  intro j h1 h2
  have := h ((j : Int) + 1) (by omega) (by omega)
  unfold tval at this
  rw [if_neg (by omega), if_neg (by omega), show ((j : Int) + 1 - 1).toNat = j by omega, List.getElem?_eq_getElem h1, List.getElem?_eq_getElem h2] at this
  simpa using this
theorem try_true {a : Asn} {used : List Int} {s' : Ste} (hh : holdsF s' a = true) : ∀ (n : Nat) (s : Ste) (t : Int), s.valid = true → 1 ≤ t → t + n = 9 → s'.heap = s.heap → (∀ u : Int, 1 ≤ u → u ≤ 8 → (u < t ∨ u ∈ used ∨ u ∉ atermsL a) → tval s'.values u = tval s.values u) → tryF a used n s t = true
  | 0, s, t, hs, h1, h9, hp, hu => by
    obtain ⟨hs', -⟩ := case_of_law hh
    have e : s' = s := by
      have e2 : s'.values = s.values := tval_ext (Ste.valid_len hs').1 (Ste.valid_len hs).1 fun u u1 u8 => hu u u1 u8 (.inl (by omega))
      cases s'; cases s
      simp only at e2 hp
      rw [e2, hp]
    unfold tryF
    rw [← e]; exact hh
  | n + 1, s, t, hs, h1, h9, hp, hu => by
    unfold tryF
    by_cases hc : t ∈ used ∨ t ∉ atermsL a
    · rw [if_pos (by simpa using hc)]
      refine try_true hh n s (t + 1) hs (by omega) (by omega) hp fun u u1 u8 h => ?_
      rcases h with h | h
      · by_cases e : u = t
        · exact hu u u1 u8 (.inr (by rw [e]; exact hc))
        · exact hu u u1 u8 (.inl (by omega))
      · exact hu u u1 u8 (.inr h)
    · rw [if_neg (by simpa using hc), List.any_eq_true]
      obtain ⟨hs', -⟩ := case_of_law hh
      have hv := tval_le (by simp only [Ste.valid, Bool.and_eq_true] at hs'; exact hs'.2.1 : s'.values.all valB = true) t
      refine ⟨(tval s'.values t).toNat, List.mem_range.2 (by omega), ?_⟩
      rw [Int.toNat_of_nonneg hv.1]
      refine try_true hh n _ (t + 1) (set_valid hs _ (by simp [valB]; omega)) (by omega) (by omega) hp fun u u1 u8 h => ?_
      show tval s'.values u = tval (s.values.set (t - 1).toNat (tval s'.values t)) u
      rw [tval_set (Ste.valid_len hs).1 h1 (by omega) _ (by omega)]
      split
      · rename_i e; rw [e]
      · refine hu u u1 u8 ?_
        rcases h with h | h
        · exact .inl (by omega)
        · exact .inr h
/-- the law of exposing -/
theorem expose_some {a : Asn} {t : Int} {ks : List Int} {l : List Asn} (h : exposeR a t ks = some l) {s : Ste} (hs : holdsF s a = true) : someF s l (atermsL a ++ ks) = true := by
  unfold exposeR at h
  split at h
  case isFalse => cases h
  rename_i hc
  rw [Bool.and_eq_true] at hc
  obtain ⟨e, he, s', g1, g2, g3⟩ := expose_model 7 a t (tset ks) l hc.2 h s hs
  obtain ⟨hsv, -⟩ := case_of_law hs
  have hev := ((expose_ent 7 a t _ l h e he).1)
  unfold someF
  rw [List.any_eq_true]
  refine ⟨e, he, try_true g1 4 s 5 hsv (by omega) (by omega) g2 fun u u1 u8 hu => g3 u (by omega) u8 ?_⟩
  rcases hu with hu | hu | hu
  · exact .inl hu
  · rcases List.mem_append.1 hu with hu | hu
    · obtain ⟨n, -, hm, rfl⟩ := (atermsL_mem hc.1).1 hu
      rw [tset_bit, decide_eq_true_eq] at hm
      exact .inr (.inl hm.2)
    · refine .inr (.inr (.inr (.inl ?_)))
      rw [tset_bit, decide_eq_true_eq, Int.toNat_of_nonneg (by omega)]
      exact ⟨isTermB_iff.2 (by omega), hu⟩
  · refine .inr (.inr (.inr (.inr fun hm => hu ((atermsL_mem hev).2 ⟨u.toNat, by omega, ?_, Int.toNat_of_nonneg (by omega)⟩))))
    rw [tset_bit, decide_eq_true_eq, Int.toNat_of_nonneg (by omega)]
    exact ⟨isTermB_iff.2 (by omega), hm⟩
end Go.Proofs.YtlmjjflalmegfaaGreat
