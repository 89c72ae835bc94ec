/- The two tests of a case agree on the cases. Plain; no program. -/
import Derived.Test.YtkiogmimolnkgaaFailS
namespace Go.Proofs.Ytkiogmimolnkgaa
open Go

--@ impl.FailingCase
theorem caseB_ent {a b : Asn} (hb : b.valid = true) {c : List Int} (hc : c ∈ cases a (caseS a (tset (termsL b)))) : caseB a b c = entB a b c := by
  have hok := Asn.valid_ok hb
  have hpos : ∀ t ∈ termsL b, 0 ≤ t ∧ t ≤ 8 → 0 ≤ cl c t := by
    intro t ht h8
    obtain ⟨n, rfl⟩ := Int.eq_ofNat_of_zero_le h8.1
    refine ((CaseT.pos (a := a) ⟨c, hc⟩ n (by omega)).1 ?_).1
    rw [caseS_bit]
    have : (tset (termsL b)).testBit n = true := by
      rw [tset_bit]
      simp only [decide_eq_true_eq]
      exact ⟨termsL_ok hb _ ht, ht⟩
    simp [this]
  unfold caseB entB
  congr 1
  unfold fitsS
  have e : ∀ f ∈ b.facts, (!(decide (0 ≤ cl c f.a) && decide (0 ≤ cl c f.b) && !f.fits c)) = f.fits c := by
    intro f hf
    have h1 := hok.1 f hf
    have ht := termsL_facts hf
    rw [decide_eq_true (hpos _ ht.1 h1.1), decide_eq_true (hpos _ ht.2 h1.2)]
    simp
  rw [Bool.eq_iff_iff, List.all_eq_true, List.all_eq_true]
  constructor
  · intro h f hf
    rw [← e f hf]; exact h f hf
  · intro h f hf
    rw [e f hf]; exact h f hf
theorem head_filter {α : Type} (p : α → Bool) (l : List α) : (l.filter p).head? = l.find? p := by
  induction l with
  | nil => rfl
  | cons x xs ih => cases h : p x <;> simp [List.filter_cons, List.find?_cons, h, ih]
theorem failF_eq {a b : Asn} (hb : b.valid = true) : ((cases a (caseS a (tset (termsL b)))).filter fun c => !caseB a b c).head? = failF a b := by
  rw [head_filter]
  unfold failF
  have : ∀ (l : List (List Int)), (∀ c ∈ l, caseB a b c = entB a b c) → (l.find? fun c => !caseB a b c) = l.find? fun c => !entB a b c := by
    intro l
    induction l with
    | nil => intro _; rfl
    | cons x xs ih =>
      intro h
      rw [List.find?_cons, List.find?_cons, h x List.mem_cons_self, ih fun y hy => h y (List.mem_cons_of_mem _ hy)]
  exact this _ fun c hc => caseB_ent hb hc
end Go.Proofs.Ytkiogmimolnkgaa
