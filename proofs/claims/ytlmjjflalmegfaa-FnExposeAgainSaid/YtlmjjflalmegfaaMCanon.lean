/- Cases and valuations: an assertion is consistent exactly if some valuation satisfies it; what tidying keeps. Plain; no program. -/
import Derived.Test.YtlmjjflalmegfaaSeq
import Derived.Test.YtlmjjflalmegfaaMSte
set_option linter.unusedSimpArgs false
set_option linter.unusedVariables false
namespace Go.Proofs.Ytlmjjflalmegfaa
open Go

def fillM (M : Int → Int) (x : Atm) : Bool := decide (x.kind = 1) || !decide (M x.a = M x.b)
/-- the valuation M satisfies a -/
structure Sat (M : Int → Int) (a : Asn) : Prop where
  facts : ∀ f ∈ a.facts, decide (M f.a = M f.b) = f.eq
  nil : ∀ x ∈ a.atoms, fillM M x = true → M x.a ≠ M 0
  apart : ((a.atoms.filter (fillM M)).map fun x => M x.a).Nodup

theorem case_zero {a : Asn} {S : Nat} (hS : S.testBit 0 = true) {d : List Int} (h : d ∈ cases a S) : cl d 0 = 0 := by
  unfold cases at h
  have hd := (List.mem_filter.1 h).1
  have := ((gen_ok S 9 zeros d (by omega) rfl hd).2.2 0 (by omega) (by omega)).1 hS
  have h2 : cl d ((0 : Nat) : Int) = cl d 0 := rfl
  omega
theorem inLast_fillM {x : Atm} {c : List Int} (h : (0 ≤ x.a ∧ x.a ≤ 8) ∧ (0 ≤ x.b ∧ x.b ≤ 8)) : inLast c 8 x = fillM (cl c) x := by
  unfold inLast fillM Atm.fill
  rw [decide_eq_true h.1.2, decide_eq_true h.2.2]; rfl
theorem case_sat {a : Asn} (hv : a.valid = true) {S : Nat} (hS : S.testBit 0 = true) {d : List Int} (h : d ∈ cases a S) : Sat (cl d) a := by
  have h0 := case_zero hS h
  have hok := Asn.valid_ok hv
  unfold cases at h
  have hf := (List.mem_filter.1 h).2
  have hp := hf
  rw [full_poss hok.1 hok.2] at hp
  unfold poss at hp
  unfold full at hf
  rw [Bool.and_eq_true] at hf hp
  have hA := (possA_iff _ _ _ _).1 hp.2
  refine ⟨fun f hm => ?_, fun x hm hfi => ?_, ?_⟩
  · have := List.all_eq_true.1 hf.1 f hm
    unfold Fct.fits at this
    exact eq_of_beq this
  · rw [h0]
    exact (hA.1 x hm (by rw [inLast_fillM (hok.2 x hm)]; exact hfi)).1
  · rw [← List.filter_congr fun x hm => inLast_fillM (hok.2 x hm)]
    exact hA.2

/-- the least term of S with the value of j -/
def leastM (M : Int → Int) (S j : Nat) : Nat := ((List.range (j + 1)).find? fun k => S.testBit k && decide (M (k : Int) = M (j : Int))).getD j
def canon (M : Int → Int) (S : Nat) : List Int := (List.range 9).map fun j => if S.testBit j then ((leastM M S j : Nat) : Int) else -1
theorem least_spec {M : Int → Int} {S j : Nat} (hj : S.testBit j = true) : leastM M S j ≤ j ∧ S.testBit (leastM M S j) = true ∧ M (leastM M S j : Nat) = M j ∧ ∀ k, k < leastM M S j → S.testBit k = true → M (k : Nat) ≠ M j := by
  unfold leastM
  cases h : (List.range (j + 1)).find? fun k => S.testBit k && decide (M (k : Int) = M (j : Int)) with
  | none =>
    have := List.find?_eq_none.1 h j (by simp)
    simp [hj] at this
  | some k =>
    obtain ⟨h1, h2, h3⟩ := List.find?_range_eq_some.1 h
    simp only [Bool.and_eq_true, decide_eq_true_eq] at h1
    refine ⟨by have := List.mem_range.1 h2; simp only [Option.getD_some]; omega, h1.1, h1.2, fun i hi hb e => ?_⟩
    have := h3 i hi
    simp [hb, e] at this
theorem least_eq {M : Int → Int} {S i j : Nat} (hi : S.testBit i = true) (hj : S.testBit j = true) : leastM M S i = leastM M S j ↔ M (i : Nat) = M (j : Nat) := by
  have h1 := least_spec (M := M) hi
  have h2 := least_spec (M := M) hj
  constructor
  · intro e
    rw [← h1.2.2.1, e, h2.2.2.1]
  · intro e
    rcases Nat.lt_trichotomy (leastM M S i) (leastM M S j) with h | h | h
    · exact absurd (h1.2.2.1.trans e) (h2.2.2.2 _ h h1.2.1)
    · exact h
    · exact absurd (h2.2.2.1.trans e.symm) (h1.2.2.2 _ h h2.2.1)
theorem canon_length (M : Int → Int) (S : Nat) : (canon M S).length = 9 := by simp [canon]
theorem cl_canon {M : Int → Int} {S j : Nat} (hj : j < 9) : cl (canon M S) (j : Int) = if S.testBit j then ((leastM M S j : Nat) : Int) else -1 := by
  unfold cl canon
  rw [Int.toNat_natCast, List.getElem?_map, List.getElem?_range hj]; rfl
theorem canon_gen (M : Int → Int) (S : Nat) : ∀ (n : Nat) (c : List Int), n ≤ 9 → c.length = 9 → (∀ j : Nat, j < 9 - n → cl c j = cl (canon M S) j) → canon M S ∈ gen S n c := by
  intro n
  induction n with
  | zero =>
    intro c _ hc h
    unfold gen
    rw [List.mem_singleton]
    apply List.ext_getElem (by rw [hc]; exact canon_length M S)
    intro j h1 h2
    have := h j (by omega)
    simpa [cl, List.getElem?_eq_getElem h1, List.getElem?_eq_getElem h2] using this.symm
  | succ n ih =>
    intro c hn hc h
    unfold gen
    cases e : S.testBit (8 - n)
    · simp only [Bool.false_eq_true, if_false]
      refine ih _ (by omega) (by simpa using hc) fun j hj => ?_
      rw [cl_set hc (by omega) _ (by omega)]
      split
      · rename_i hj'
        have : j = 8 - n := by omega
        subst this
        rw [cl_canon (by omega), e]; rfl
      · exact h j (by omega)
    · rw [if_pos rfl, List.mem_flatMap]
      have hl := least_spec (M := M) e
      refine ⟨leastM M S (8 - n), by rw [List.mem_range]; omega, ?_⟩
      rw [if_neg]
      · refine ih _ (by omega) (by simpa using hc) fun j hj => ?_
        rw [cl_set hc (by omega) _ (by omega)]
        split
        · rename_i hj'
          have : j = 8 - n := by omega
          subst this
          rw [cl_canon (by omega), e]; rfl
        · exact h j (by omega)
      · rintro ⟨hlt, hne⟩
        apply hne
        rw [h _ (by omega), cl_canon (by omega), hl.2.1, if_pos rfl]
        congr 1
        exact (least_eq hl.2.1 e).2 hl.2.2.1
theorem cl_canon_eq {M : Int → Int} {S : Nat} {s t : Int} (hs : (0 ≤ s ∧ s ≤ 8) ∧ S.testBit s.toNat = true) (ht : (0 ≤ t ∧ t ≤ 8) ∧ S.testBit t.toNat = true) : cl (canon M S) s = cl (canon M S) t ↔ M s = M t := by
  obtain ⟨i, rfl⟩ := Int.eq_ofNat_of_zero_le hs.1.1
  obtain ⟨j, rfl⟩ := Int.eq_ofNat_of_zero_le ht.1.1
  rw [Int.toNat_natCast] at hs ht
  rw [cl_canon (by omega), cl_canon (by omega), hs.2, ht.2, if_pos rfl, if_pos rfl, Int.natCast_inj]
  exact least_eq hs.2 ht.2
theorem sat_case {a : Asn} (hv : a.valid = true) {S : Nat} (h0 : S.testBit 0 = true) (hS : ∀ t ∈ termsL a, S.testBit t.toNat = true) {M : Int → Int} (h : Sat M a) : canon M S ∈ cases a S := by
  have hok := Asn.valid_ok hv
  have hF : ∀ f ∈ a.facts, S.testBit f.a.toNat = true ∧ S.testBit f.b.toNat = true := fun f hf => ⟨hS _ (termsL_facts hf).1, hS _ (termsL_facts hf).2⟩
  have hX : ∀ x ∈ a.atoms, S.testBit x.a.toNat = true ∧ S.testBit x.b.toNat = true := fun x hx => by
    have : x.a ∈ termsL a ∧ x.b ∈ termsL a := by
      simp only [termsL, List.mem_append, List.mem_flatMap]
      exact ⟨Or.inr ⟨x, hx, by simp [atomT]⟩, Or.inr ⟨x, hx, by simp [atomT]⟩⟩
    exact ⟨hS _ this.1, hS _ this.2⟩
  have hfill : ∀ x ∈ a.atoms, inLast (canon M S) 8 x = fillM M x := fun x hx => by
    rw [inLast_fillM (hok.2 x hx)]
    unfold fillM
    congr 2
    rw [decide_eq_decide]
    exact cl_canon_eq ⟨(hok.2 x hx).1, (hX x hx).1⟩ ⟨(hok.2 x hx).2, (hX x hx).2⟩
  unfold cases
  rw [List.mem_filter]
  refine ⟨canon_gen M S 9 zeros (by omega) rfl (fun j hj => by omega), ?_⟩
  rw [full_poss hok.1 hok.2]
  unfold poss
  rw [Bool.and_eq_true]
  constructor
  · unfold possF
    rw [List.all_eq_true]
    intro f hf
    have : f.fits (canon M S) = true := by
      unfold Fct.fits
      rw [beq_iff_eq, ← h.facts f hf, decide_eq_decide]
      exact cl_canon_eq ⟨(hok.1 f hf).1, (hF f hf).1⟩ ⟨(hok.1 f hf).2, (hF f hf).2⟩
    rw [this]; simp
  · rw [possA_iff]
    refine ⟨fun x hx hi => ⟨fun e => ?_, by simp⟩, ?_⟩
    · rw [hfill x hx] at hi
      refine h.nil x hx hi ((cl_canon_eq (S := S) (t := 0) ⟨(hok.2 x hx).1, (hX x hx).1⟩ ⟨⟨by omega, by omega⟩, h0⟩).1 ?_)
      rw [e]
      have := cl_canon (M := M) (S := S) (j := 0) (by omega)
      rw [h0, if_pos rfl] at this
      have hl := (least_spec (M := M) h0).1
      have h3 : leastM M S 0 = 0 := by omega
      rw [h3] at this
      exact this.symm
    · rw [List.filter_congr hfill]
      have h3 := h.apart
      unfold List.Nodup at h3 ⊢
      rw [List.pairwise_map] at h3 ⊢
      refine List.Pairwise.imp_of_mem ?_ h3
      intro x y hx hy hxy e
      have hx' := (List.mem_filter.1 hx).1
      have hy' := (List.mem_filter.1 hy).1
      exact hxy ((cl_canon_eq ⟨(hok.2 x hx').1, (hX x hx').1⟩ ⟨(hok.2 y hy').1, (hX y hy').1⟩).1 e)
/-- an assertion is consistent exactly if some valuation satisfies it -/
def consB (a : Asn) : Bool := a.valid && !(cases a (caseS a 0)).isEmpty
theorem consB_iff {a : Asn} : consB a = true ↔ a.valid = true ∧ ∃ M, Sat M a := by
  unfold consB
  rw [Bool.and_eq_true]
  constructor
  · rintro ⟨hv, h⟩
    refine ⟨hv, ?_⟩
    cases e : cases a (caseS a 0) with
    | nil => rw [e] at h; cases h
    | cons d ds => exact ⟨cl d, case_sat hv (caseS_zero a 0) (by rw [e]; exact List.mem_cons_self)⟩
  · rintro ⟨hv, M, h⟩
    refine ⟨hv, ?_⟩
    have := sat_case hv (caseS_zero a 0) (caseS_terms hv 0) h
    cases e : cases a (caseS a 0) with
    | nil => rw [e] at this; cases this
    | cons d ds => rfl

/-! tidying -/
theorem swp_val {M : Int → Int} {x t : Int} (h : M x = M t) (s : Int) : M (swp x t s) = M s := by
  unfold swp; split
  · rename_i e; rw [e, h]
  · rfl
theorem Sat.subst {M : Int → Int} {a : Asn} (h : Sat M a) {x t : Int} (e : M x = M t) : Sat M (substA x t a) := by
  have hfill : ∀ z : Atm, fillM M (z.sub x t) = fillM M z := fun z => by
    unfold fillM Atm.sub
    simp only [swp_val e]
  refine ⟨fun f hf => ?_, fun y hy hfi => ?_, ?_⟩
  · obtain ⟨g, hg, rfl⟩ := List.mem_map.1 hf
    simp only [Fct.sub, swp_val e]
    exact h.facts g hg
  · obtain ⟨z, hz, rfl⟩ := List.mem_map.1 hy
    rw [hfill] at hfi
    simp only [Atm.sub, swp_val e]
    exact h.nil z hz hfi
  · have h3 := h.apart
    simp only [substA, List.filter_map, List.map_map]
    rw [List.filter_congr (q := fillM M) fun z _ => by simp [hfill]]
    have e2 : ((fun y : Atm => M y.a) ∘ Atm.sub x t) = fun y : Atm => M y.a := by
      funext z; simp only [Function.comp, Atm.sub, swp_val e]
    rw [e2]; exact h3
theorem Sat.less {M : Int → Int} {a : Asn} (h : Sat M a) {fs : List Fct} {xs : List Atm} (hf : ∀ f ∈ fs, f ∈ a.facts) (hx : xs.Sublist a.atoms) : Sat M ⟨fs, xs⟩ :=
  ⟨fun f hm => h.facts f (hf f hm), fun x hm => h.nil x (hx.subset hm), h.apart.sublist ((hx.filter _).map _)⟩
theorem subOf_fact {K : Nat} {f : Fct} {x t : Int} (h : subOf K f = some (x, t)) : f.eq = true := by
  unfold subOf at h
  split at h
  · rename_i hc; simp at hc; exact hc.1
  · cases h
theorem Sat.subAll {M : Int → Int} {K : Nat} : ∀ (n : Nat) (a : Asn), (left K a).length ≤ n → Sat M a → Sat M (subAll K a) := by
  intro n
  induction n with
  | zero =>
    intro a hn hv
    cases h : subStep K a.facts with
    | none => rw [subAll_none h]; exact hv
    | some p => obtain ⟨x, t⟩ := p; have := left_lt h; omega
  | succ n ih =>
    intro a hn hv
    cases h : subStep K a.facts with
    | none => rw [subAll_none h]; exact hv
    | some p =>
      obtain ⟨x, t⟩ := p
      rw [subAll_some h]
      refine ih _ (by have := left_lt h; omega) (hv.subst ?_)
      obtain ⟨f, hf, hs⟩ := List.exists_of_findSome?_eq_some h
      have h1 := hv.facts f hf
      rw [subOf_fact hs, decide_eq_true_eq] at h1
      rcases (subOf_spec hs).2.2 with ⟨e1, e2⟩ | ⟨e1, e2⟩ <;> rw [e1, e2]
      · exact h1
      · exact h1.symm
theorem nfold_mem (fs : List Fct) : ∀ (acc : List Fct) (g : Fct), g ∈ fs.foldl nfStep acc → g ∈ acc ∨ ∃ f ∈ fs, g = nfF f := by
  induction fs with
  | nil => intro acc g h; exact Or.inl h
  | cons f fs ih =>
    intro acc g h
    rw [List.foldl_cons] at h
    rcases ih _ _ h with h | ⟨f', hf', e⟩
    · unfold nfStep at h
      split at h
      · exact Or.inl h
      · split at h
        · exact Or.inl h
        · rcases List.mem_append.1 h with h | h
          · exact Or.inl h
          · exact Or.inr ⟨f, List.mem_cons_self, List.mem_singleton.1 h⟩
    · exact Or.inr ⟨f', List.mem_cons_of_mem _ hf', e⟩
theorem nfold_length (fs : List Fct) : ∀ (acc : List Fct), (fs.foldl nfStep acc).length ≤ acc.length + fs.length := by
  induction fs with
  | nil => intro acc; simp
  | cons f fs ih =>
    intro acc
    rw [List.foldl_cons]
    have h1 := ih (nfStep acc f)
    have h2 := nfStep_length acc f
    simp only [List.length_cons]
    omega
theorem Sat.normal {M : Int → Int} {a : Asn} (h : Sat M a) : Sat M (normalF a) := by
  have hs := h.less (fs := []) (xs := a.atoms.filter nfA) (fun _ hf => by cases hf) List.filter_sublist
  refine ⟨fun g hg => ?_, hs.nil, hs.apart⟩
  rcases nfold_mem _ _ _ hg with h1 | ⟨f, hf, rfl⟩
  · cases h1
  · have := h.facts f hf
    unfold nfF
    split
    · simp only []
      rw [← this, decide_eq_decide]
      exact eq_comm
    · exact this
theorem normal_valid {a : Asn} (h : a.valid = true) : (normalF a).valid = true := by
  simp only [Asn.valid, factsValid, Bool.and_eq_true, decide_eq_true_eq, List.all_eq_true] at h ⊢
  refine ⟨⟨?_, fun g hg => ?_⟩, ?_, fun x hx => ?_⟩
  · have := nfold_length a.facts []
    simp only [normalF, List.length_nil] at this ⊢
    omega
  · rcases nfold_mem _ _ _ hg with h1 | ⟨f, hf, rfl⟩
    · cases h1
    · have := h.1.2 f hf
      simp only [Fct.valid, Bool.and_eq_true] at this ⊢
      unfold nfF
      split
      · exact ⟨this.2, this.1⟩
      · exact this
  · have := List.length_filter_le nfA a.atoms
    simp only [normalF]
    omega
  · exact h.2.2 x (List.mem_filter.1 hx).1
theorem keepF_valid {a : Asn} (p : Fct → Bool) (h : a.valid = true) : (⟨a.facts.filter p, a.atoms⟩ : Asn).valid = true := by
  simp only [Asn.valid, factsValid, Bool.and_eq_true, decide_eq_true_eq, List.all_eq_true] at h ⊢
  exact ⟨⟨Nat.le_trans (List.length_filter_le _ _) h.1.1, fun f hf => h.1.2 f (List.mem_filter.1 hf).1⟩, h.2⟩
theorem tidy_valid {K : Nat} {a : Asn} (h : a.valid = true) : (tidyF K a).valid = true := normal_valid (keepF_valid _ (subAll_valid _ a (Nat.le_refl _) h))
theorem tidy_sat {K : Nat} {M : Int → Int} {a : Asn} (h : Sat M a) : Sat M (tidyF K a) :=
  Sat.normal ((Sat.subAll _ a (Nat.le_refl _) h).less (fun f hf => (List.mem_filter.1 hf).1) (List.Sublist.refl _))
theorem tidy_cons {K : Nat} {a : Asn} (h : consB a = true) : consB (tidyF K a) = true := by
  obtain ⟨hv, M, hM⟩ := consB_iff.1 h
  exact consB_iff.2 ⟨tidy_valid hv, M, tidy_sat hM⟩
/-- nothing goes where all is kept -/
theorem tidy_all {K : Nat} {a : Asn} (hv : a.valid = true) (hK : ∀ n, 5 ≤ n → n ≤ 8 → K.testBit n = true) : tidyF K a = normalF a := by
  have hfree : ∀ t : Int, free K t = false := fun t => by
    unfold free logB
    by_cases h : 4 < t ∧ t ≤ 8
    · rw [hK t.toNat (by omega) (by omega)]; simp
    · rw [decide_eq_false h]; rfl
  have hsub : subStep K a.facts = none := by
    unfold subStep
    rw [List.findSome?_eq_none_iff]
    intro f _
    unfold subOf
    rw [hfree, hfree]; simp
  unfold tidyF
  rw [subAll_none hsub]
  have hfil : a.facts.filter (okFact (K ||| tset (termsL ⟨[], a.atoms⟩))) = a.facts := by
    rw [List.filter_eq_self]
    intro f hf
    have hok := (Asn.valid_ok hv).1 f hf
    have key : ∀ t : Int, (0 ≤ t ∧ t ≤ 8) → okTerm (K ||| tset (termsL ⟨[], a.atoms⟩)) t = true := fun t ht => by
      unfold okTerm
      by_cases h : t ≤ 4
      · rw [decide_eq_true h]; rfl
      · rw [Nat.testBit_or, hK t.toNat (by omega) (by omega)]; simp
    unfold okFact
    rw [key _ hok.1, key _ hok.2]; rfl
  show normalF ⟨a.facts.filter (okFact (K ||| tset (termsL ⟨[], a.atoms⟩))), a.atoms⟩ = normalF a
  rw [hfil]
end Go.Proofs.Ytlmjjflalmegfaa

/- The case of a valuation, entry by entry. Plain; no program. -/
namespace Go.Proofs.Ytlmjjflalmegfaa
open Go Go.RowKit

/-- the entry of the state's case at j -/
def caseAt (M : Int → Int) (S j : Nat) : Int := if S.testBit j then ((leastM M S j : Nat) : Int) else -1
theorem canon_ext {M : Int → Int} {S : Nat} {d : List Int} (hd : d.length = 9) (h : ∀ j : Nat, j < 9 → cl d j = caseAt M S j) : d = canon M S := by
  apply List.ext_getElem (by rw [hd, canon_length])
  intro j h1 h2
  have e := h j (by omega)
  rw [show caseAt M S j = cl (canon M S) j from (cl_canon (by omega)).symm] at e
  simpa [cl, List.getElem?_eq_getElem h1, List.getElem?_eq_getElem h2] using e
theorem least_is {M : Int → Int} {S k t : Nat} (hk : S.testBit k = true) (ht : S.testBit t = true) (hm : M (k : Int) = M (t : Int)) (hn : ∀ j, j < k → S.testBit j = true → M (j : Int) ≠ M (t : Int)) : leastM M S t = k := by
  have h := least_spec (M := M) ht
  rcases Nat.lt_trichotomy (leastM M S t) k with h1 | h1 | h1
  · exact absurd h.2.2.1 (hn _ h1 h.2.1)
  · exact h1
  · exact absurd hm (h.2.2.2 _ h1 hk)
theorem gen_idem (S : Nat) : ∀ (n : Nat) (c d : List Int), n ≤ 9 → c.length = 9 → d ∈ gen S n c → ∀ j : Nat, 9 - n ≤ j → j < 9 → S.testBit j = true → cl d (cl d j) = cl d j := by
  intro n
  induction n with
  | zero => intro c d _ _ _ j h1 h2; omega
  | succ n ih =>
    intro c d hn hc hd j h1 h2 hj
    unfold gen at hd
    cases e : S.testBit (8 - n)
    · rw [e] at hd
      simp only [Bool.false_eq_true, if_false] at hd
      by_cases ej : j = 8 - n
      · subst ej; rw [e] at hj; cases hj
      · exact ih _ _ (by omega) (by simpa using hc) hd j (by omega) h2 hj
    · rw [e, if_pos rfl, List.mem_flatMap] at hd
      obtain ⟨k, hk, hd⟩ := hd
      rw [List.mem_range] at hk
      split at hd
      · cases hd
      · rename_i hne
        by_cases ej : j = 8 - n
        · have hA := (gen_ok S n _ _ (by omega) (by simpa using hc) hd).2.1
          have e1 : cl d (j : Int) = k := by rw [hA j (by omega) (by omega), cl_set hc (by omega) _ (by omega), if_pos (by omega)]
          rw [e1, hA k (by omega) (by omega), cl_set hc (by omega) _ (by omega)]
          split
          · rfl
          · rename_i hkn
            by_cases h3 : cl c k = k
            · exact h3
            · exact absurd ⟨by omega, h3⟩ hne
        · exact ih _ _ (by omega) (by simpa using hc) hd j (by omega) h2 hj
theorem least_self {S : Nat} {cs : List Int} (hL : ∀ j : Nat, j < 9 → (S.testBit j = true → (0 ≤ cl cs j ∧ cl cs j ≤ j) ∧ cl cs (cl cs j) = cl cs j) ∧ (S.testBit j = false → cl cs j = -1)) {j : Nat} (hj : j < 9) (hb : S.testBit j = true) : ((leastM (cl cs) S j : Nat) : Int) = cl cs j := by
  have h := (hL j hj).1 hb
  obtain ⟨k, hk⟩ := Int.eq_ofNat_of_zero_le h.1.1
  have hkj : k ≤ j := by omega
  have hkb : S.testBit k = true := by
    cases e : S.testBit k
    · have h2 := (hL k (by omega)).2 e
      have h3 := h.2
      rw [hk, h2] at h3
      omega
    · rfl
  rw [least_is (k := k) hkb hb (by rw [← hk]; exact h.2) (fun i hi hib => by
    have h2 := ((hL i (by omega)).1 hib).1.2
    omega), hk]
theorem case_iff {a : Asn} {S : Nat} {cs : List Int} : cs ∈ cases a S ↔ cs.length = 9 ∧ (∀ j : Nat, j < 9 → (S.testBit j = true → (0 ≤ cl cs j ∧ cl cs j ≤ j) ∧ cl cs (cl cs j) = cl cs j) ∧ (S.testBit j = false → cl cs j = -1)) ∧ full a cs = true := by
  constructor
  · intro h
    have hgen : cs ∈ gen S 9 zeros := (List.mem_filter.1 h).1
    have hg := gen_ok _ 9 zeros cs (by omega) rfl hgen
    refine ⟨hg.1, fun j hj => ⟨fun hb => ⟨(hg.2.2 j (by omega) hj).1 hb, gen_idem _ 9 zeros cs (by omega) rfl hgen j (by omega) hj hb⟩, fun hb => (hg.2.2 j (by omega) hj).2 hb⟩, (List.mem_filter.1 h).2⟩
  · rintro ⟨h1, h2, h3⟩
    refine List.mem_filter.2 ⟨?_, h3⟩
    have e : cs = canon (cl cs) S := canon_ext h1 fun j hj => by
      unfold caseAt
      cases hb : S.testBit j
      · exact (h2 j hj).2 hb
      · rw [if_pos rfl, least_self h2 hj hb]
    have := canon_gen (cl cs) S 9 zeros (by omega) rfl (fun j hj => absurd hj (by omega))
    rwa [← e] at this
end Go.Proofs.Ytlmjjflalmegfaa
