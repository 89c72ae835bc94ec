/- The model of a case: values and heap; it holds and has that case. Plain; no program. -/
import Derived.Test.YteogcababfenfaaMCaseP
set_option linter.unusedSimpArgs false
set_option linter.unusedVariables false
namespace Go.Proofs.Yteogcababfenfaa
open Go Go.RowKit

theorem cont_set8 {h : List Int} (hl : h.length = 8) {m n : Int} (hm : addrB m = true) (hn : addrB n = true) (v : Int) : cont (h.set (m - 1).toNat v) n = if n = m then v else cont h n := by
  unfold cont
  rw [if_pos hn, if_pos hn]
  simp only [addrB, decide_eq_true_eq] at hm hn
  by_cases e : n = m
  · subst e
    rw [if_pos rfl, List.getElem?_set_self (by omega)]; rfl
  · rw [if_neg e, List.getElem?_set_ne (by omega)]
def heapS (vs : List Int) (h : List Int) (xs : List Atm) : List Int := xs.foldl (fun h x => h.set (tval vs x.a - 1).toNat (tval vs x.b)) h
def blank8 : List Int := List.replicate 8 (-1)
theorem heapS_spec {vs : List Int} : ∀ (xs : List Atm) (h : List Int), h.length = 8 → (xs.map fun x => tval vs x.a).Nodup → (∀ x ∈ xs, addrB (tval vs x.a) = true) →
    (heapS vs h xs).length = 8 ∧ (∀ x ∈ xs, cont (heapS vs h xs) (tval vs x.a) = tval vs x.b) ∧ (∀ n, addrB n = true → (∀ x ∈ xs, tval vs x.a ≠ n) → cont (heapS vs h xs) n = cont h n) := by
  intro xs
  induction xs with
  | nil => intro h hl _ _; exact ⟨hl, fun x hx => (by cases hx), fun _ _ _ => rfl⟩
  | cons x xs ih =>
    intro h hl hn ha
    rw [List.map_cons, List.nodup_cons] at hn
    have hax := ha x List.mem_cons_self
    obtain ⟨g1, g2, g3⟩ := ih (h.set (tval vs x.a - 1).toNat (tval vs x.b)) (by simpa using hl) hn.2 fun y hy => ha y (List.mem_cons_of_mem _ hy)
    refine ⟨g1, fun y hy => ?_, fun n hn2 hne => ?_⟩
    · rcases List.mem_cons.1 hy with rfl | hy
      · show cont (heapS vs (h.set _ _) xs) _ = _
        rw [g3 _ hax fun z hz e => hn.1 (List.mem_map.2 ⟨z, hz, e⟩), cont_set8 hl hax hax, if_pos rfl]
      · exact g2 y hy
    · show cont (heapS vs (h.set _ _) xs) _ = _
      rw [g3 n hn2 fun z hz => hne z (List.mem_cons_of_mem _ hz), cont_set8 hl hax hn2, if_neg (fun e => hne x List.mem_cons_self e.symm)]
theorem heapS_cells {vs : List Int} (hv : vs.all valB = true) : ∀ (xs : List Atm) (h : List Int), h.all cellB = true → (heapS vs h xs).all cellB = true := by
  intro xs
  induction xs with
  | nil => intro h hh; exact hh
  | cons x xs ih =>
    intro h hh
    refine ih _ (List.all_eq_true.2 fun y hy => ?_)
    rcases List.mem_or_eq_of_mem_set hy with hy | rfl
    · exact List.all_eq_true.1 hh y hy
    · have := tval_le hv x.b
      simp [cellB, valB]; omega
theorem cont_blank {n : Int} : cont blank8 n = -1 := by
  unfold cont
  split
  · rename_i h
    simp only [addrB, decide_eq_true_eq] at h
    unfold blank8
    rw [List.getElem?_replicate, if_pos (by omega)]; rfl
  · rfl
/-- the state of a valuation in which each filled atom has one cell -/
theorem one_cell {vs : List Int} (hl : vs.length = 8) (hv : vs.all valB = true) {a : Asn} (ha : a.valid = true) (hs : Sat (tval vs) a) :
    holdsF ⟨vs, heapS vs blank8 (a.atoms.filter (fillM (tval vs)))⟩ a = true := by
  have hk : ∀ x ∈ a.atoms, x.kind = 1 ∨ x.kind = 2 := fun x hx => by
    have hv := ha
    simp only [Asn.valid, Bool.and_eq_true] at hv
    have := List.all_eq_true.1 hv.2.2 x hx
    simp [Atm.valid] at this
    exact this.1.1
  have hadd : ∀ x ∈ a.atoms.filter (fillM (tval vs)), addrB (tval vs x.a) = true := fun x hx => by
    rw [List.mem_filter] at hx
    have h1 := hs.nil x hx.1 hx.2
    have h2 := tval_le hv x.a
    have e0 : tval vs 0 = 0 := rfl
    rw [e0] at h1
    simp only [addrB, decide_eq_true_eq]
    omega
  obtain ⟨g1, g2, g3⟩ := heapS_spec _ blank8 rfl hs.apart hadd
  generalize hh : heapS vs blank8 (a.atoms.filter (fillM (tval vs))) = h at g1 g2 g3
  have hcell : h.all cellB = true := by rw [← hh]; exact heapS_cells hv _ _ (by decide)
  have hstep : ∀ x ∈ a.atoms, atomCells ⟨vs, h⟩ x = some (if fillM (tval vs) x then [tval vs x.a] else []) := fun x hx => by
    cases hf : fillM (tval vs) x
    · rw [if_neg (by decide)]
      unfold fillM at hf
      rw [Bool.or_eq_false_iff] at hf
      have h1 : x.kind = 2 := by rcases hk x hx with h | h; · rw [decide_eq_true h] at hf; cases hf.1
                                 · exact h
      have h2 : tval vs x.a = tval vs x.b := by simpa using hf.2
      unfold atomCells
      rw [if_pos h1]
      show walkF h 8 (tval vs x.a) (tval vs x.b) = some []
      rw [h2, walkF_here]
    · rw [if_pos rfl]
      have hm := List.mem_filter.2 ⟨hx, hf⟩
      have hc := g2 x hm
      unfold atomCells
      split
      · rename_i h1
        show walkF h 8 (tval vs x.a) (tval vs x.b) = _
        have hne : tval vs x.a ≠ tval vs x.b := fun e => by
          unfold fillM at hf
          rw [decide_eq_false (by omega : ¬ x.kind = 1), decide_eq_true e] at hf
          cases hf
        rw [walkF_on h 7 hne (by unfold allocB; rw [hc]; exact decide_eq_true (tval_le hv x.b).1), hc, walkF_here]; rfl
      · first | exact if_pos hc | rfl
  have hpart : ∀ (xs : List Atm) (seen : List Int), (∀ x ∈ xs, x ∈ a.atoms) → (seen ++ (xs.filter (fillM (tval vs))).map fun x => tval vs x.a).Nodup → partAtoms ⟨vs, h⟩ seen xs = some (seen ++ (xs.filter (fillM (tval vs))).map fun x => tval vs x.a) := by
    intro xs
    induction xs with
    | nil => intro seen _ _; simp [partAtoms]
    | cons x xs ih =>
      intro seen hm hn
      unfold partAtoms
      rw [hstep x (hm x List.mem_cons_self)]
      cases hf : fillM (tval vs) x
      · rw [List.filter_cons_of_neg (by simp [hf])] at hn ⊢
        simp only [Bool.false_eq_true, if_false, Option.bind_some, addAll]
        exact ih seen (fun y hy => hm y (List.mem_cons_of_mem _ hy)) hn
      · rw [List.filter_cons_of_pos hf, List.map_cons] at hn ⊢
        have e : seen ++ tval vs x.a :: ((xs.filter (fillM (tval vs))).map fun x => tval vs x.a) = (seen ++ [tval vs x.a]) ++ ((xs.filter (fillM (tval vs))).map fun x => tval vs x.a) := by simp
        rw [e] at hn ⊢
        simp only [if_true, Option.bind_some]
        rw [addAll_some _ _ (List.nodup_append.1 hn).1, Option.bind_some]
        exact ih _ (fun y hy => hm y (List.mem_cons_of_mem _ hy)) hn
  have hpo : partOf ⟨vs, h⟩ a = some ((a.atoms.filter (fillM (tval vs))).map fun x => tval vs x.a) := by
    rw [partOf_some]
    refine ⟨?_, ha, ?_, ?_⟩
    · simp only [Ste.valid, Bool.and_eq_true, decide_eq_true_eq]
      exact ⟨⟨hl, g1⟩, hv, hcell⟩
    · simp only [factsHold, Bool.and_eq_true, decide_eq_true_eq]
      refine ⟨⟨Asn.valid_facts ha, hl⟩, List.all_eq_true.2 fun f hf => ?_⟩
      unfold Fct.holds
      rw [hs.facts f hf]
      cases f.eq <;> rfl
    · have := hpart a.atoms [] (fun _ h => h) (by simpa using hs.apart)
      simpa using this
  rw [holds_iff]
  refine ⟨_, hpo, fun n hn => ?_⟩
  have hca := cont_alloc hn
  rw [List.mem_map]
  refine Classical.byContradiction fun hno => ?_
  have := g3 n hca.1 fun x hx e => hno ⟨x, hx, e⟩
  rw [cont_blank] at this
  have h2 : 0 ≤ cont h n := hca.2
  omega

/-- equal valuations on the terms satisfy the same -/
theorem Sat.same {M N : Int → Int} {a : Asn} (h : Sat N a) (he : ∀ s t, (s = 0 ∨ s ∈ termsL a) → (t = 0 ∨ t ∈ termsL a) → (M s = M t ↔ N s = N t)) : Sat M a := by
  have hX : ∀ x ∈ a.atoms, x.a ∈ termsL a ∧ x.b ∈ termsL a := fun x hx => by
    simp only [termsL, List.mem_append, List.mem_flatMap]
    exact ⟨Or.inr ⟨x, hx, by simp [atomT]⟩, Or.inr ⟨x, hx, by simp [atomT]⟩⟩
  have hF : ∀ x ∈ a.facts, x.a ∈ termsL a ∧ x.b ∈ termsL a := fun x hx => by
    simp only [termsL, List.mem_append, List.mem_flatMap]
    exact ⟨Or.inl ⟨x, hx, by simp [factT]⟩, Or.inl ⟨x, hx, by simp [factT]⟩⟩
  have hfill : ∀ x ∈ a.atoms, fillM M x = fillM N x := fun x hx => by
    unfold fillM
    congr 2
    rw [decide_eq_decide]
    exact he _ _ (Or.inr (hX x hx).1) (Or.inr (hX x hx).2)
  refine ⟨fun f hf => ?_, fun x hx hf e => ?_, ?_⟩
  · rw [← h.facts f hf, decide_eq_decide]
    exact he _ _ (Or.inr (hF f hf).1) (Or.inr (hF f hf).2)
  · rw [hfill x hx] at hf
    exact h.nil x hx hf ((he _ _ (Or.inr (hX x hx).1) (Or.inl rfl)).1 e)
  · rw [List.filter_congr hfill]
    have h1 := h.apart
    unfold List.Nodup at h1 ⊢
    rw [List.pairwise_map] at h1 ⊢
    exact h1.imp_of_mem fun {x y} hx hy hne e => hne ((he _ _ (Or.inr (hX x (List.mem_filter.1 hx).1).1) (Or.inr (hX y (List.mem_filter.1 hy).1).1)).1 e)

theorem nodupN_le : ∀ {l m : List Nat}, l.Nodup → (∀ x ∈ l, x ∈ m) → l.length ≤ m.length := by
  intro l
  induction l with
  | nil => intro m _ _; simp
  | cons a l ih =>
    intro m hn hs
    rw [List.nodup_cons] at hn
    have hm := hs a List.mem_cons_self
    have := ih (m := m.erase a) hn.2 fun x hx => (List.mem_erase_of_ne (by rintro rfl; exact hn.1 hx)).2 (hs x (List.mem_cons_of_mem _ hx))
    rw [List.length_erase_of_mem hm] at this
    have hp := List.length_pos_of_mem hm
    rw [List.length_cons]; omega
/-- the number of the class k among the classes other than nil's -/
def rk (c : List Int) (k : Int) : Nat := ((List.range' 1 8).filter fun j : Nat => decide ((j : Int) ≤ k) && decide (cl c (j : Int) = j)).length
def mval (c : List Int) (t : Int) : Int := if 0 < cl c t then (rk c (cl c t) : Int) else 0
def modV (c : List Int) : List Int := (List.range' 1 8).map fun t : Nat => mval c (t : Int)
theorem rk_le (c : List Int) (k : Int) : rk c k ≤ 8 := by
  unfold rk
  exact Nat.le_trans (List.length_filter_le _ _) (by simp)
theorem mval_le (c : List Int) (t : Int) : 0 ≤ mval c t ∧ mval c t ≤ 8 := by
  unfold mval
  have := rk_le c (cl c t)
  split <;> omega
theorem rk_pos {c : List Int} {k : Int} (h1 : 1 ≤ k) (h8 : k ≤ 8) (hk : cl c k = k) : 1 ≤ rk c k := by
  obtain ⟨n, rfl⟩ := Int.eq_ofNat_of_zero_le (by omega : 0 ≤ k)
  unfold rk
  refine List.length_pos_of_mem (a := n) (List.mem_filter.2 ⟨List.mem_range'_1.2 (by omega), ?_⟩)
  simp [hk]
theorem rk_lt {c : List Int} {k k' : Int} (h1 : 0 ≤ k) (hlt : k < k') (h8 : k' ≤ 8) (hk : cl c k' = k') : rk c k < rk c k' := by
  obtain ⟨n, rfl⟩ := Int.eq_ofNat_of_zero_le h1
  obtain ⟨m, rfl⟩ := Int.eq_ofNat_of_zero_le (by omega : 0 ≤ k')
  unfold rk
  have hnd : (List.range' 1 8).Nodup := List.nodup_range'
  have hsub : ∀ j ∈ m :: (List.range' 1 8).filter (fun j : Nat => decide ((j : Int) ≤ n) && decide (cl c (j : Int) = j)), j ∈ (List.range' 1 8).filter (fun j : Nat => decide ((j : Int) ≤ m) && decide (cl c (j : Int) = j)) := fun j hj => by
    rcases List.mem_cons.1 hj with rfl | hj
    · exact List.mem_filter.2 ⟨List.mem_range'_1.2 (by omega), by simp [hk]⟩
    · rw [List.mem_filter] at hj ⊢
      refine ⟨hj.1, ?_⟩
      simp only [Bool.and_eq_true, decide_eq_true_eq] at hj ⊢
      exact ⟨by omega, hj.2.2⟩
  have hnd2 : (m :: (List.range' 1 8).filter (fun j : Nat => decide ((j : Int) ≤ n) && decide (cl c (j : Int) = j))).Nodup := by
    rw [List.nodup_cons]
    refine ⟨fun hm => ?_, hnd.filter _⟩
    rw [List.mem_filter] at hm
    simp only [Bool.and_eq_true, decide_eq_true_eq] at hm
    omega
  have := nodupN_le hnd2 hsub
  simpa [Nat.lt_iff_add_one_le] using this
theorem tval_mod {c : List Int} (h0 : cl c 0 = 0) {t : Int} (ht : 0 ≤ t) (h8 : t ≤ 8) : tval (modV c) t = mval c t := by
  unfold tval
  split
  · rename_i e; subst e; unfold mval; rw [h0]; rfl
  · rename_i e
    obtain ⟨n, rfl⟩ := Int.eq_ofNat_of_zero_le ht
    unfold modV
    rw [List.getElem?_map, List.getElem?_range' (by omega)]
    simp only [Option.map_some, Option.getD_some]
    congr 1
    omega
theorem modV_ok (c : List Int) : (modV c).length = 8 ∧ (modV c).all valB = true := by
  refine ⟨by simp [modV], List.all_eq_true.2 fun x hx => ?_⟩
  obtain ⟨t, -, rfl⟩ := List.mem_map.1 hx
  have := mval_le c t
  simp [valB]; omega
/-- classes as the loop's rounds have them -/
def Cls (S : Nat) (c : List Int) : Prop := ∀ j : Nat, j < 9 → (S.testBit j = true → (0 ≤ cl c j ∧ cl c j ≤ j) ∧ cl c (cl c j) = cl c j) ∧ (S.testBit j = false → cl c j = -1)
theorem Cls.zero {S : Nat} {c : List Int} (h : Cls S c) (h0 : S.testBit 0 = true) : cl c 0 = 0 := by
  have h1 := ((h 0 (by omega)).1 h0).1
  have e : ((0 : Nat) : Int) = 0 := rfl
  rw [e] at h1
  omega
theorem mval_eq {S : Nat} {c : List Int} (h : Cls S c) {i j : Nat} (hi : i < 9) (hj : j < 9) (bi : S.testBit i = true) (bj : S.testBit j = true) : mval c i = mval c j ↔ cl c i = cl c j := by
  have h1 := (h i hi).1 bi
  have h2 := (h j hj).1 bj
  constructor
  · intro e
    unfold mval at e
    by_cases p1 : 0 < cl c i
    · have q1 := rk_pos (c := c) (by omega) (by omega) h1.2
      rw [if_pos p1] at e
      by_cases p2 : 0 < cl c j
      · rw [if_pos p2] at e
        rcases Int.lt_trichotomy (cl c i) (cl c j) with h | h | h
        · have := rk_lt (c := c) h1.1.1 h (by omega) h2.2; omega
        · exact h
        · have := rk_lt (c := c) h2.1.1 h (by omega) h1.2; omega
      · rw [if_neg p2] at e; omega
    · rw [if_neg p1] at e
      by_cases p2 : 0 < cl c j
      · have q2 := rk_pos (c := c) (by omega) (by omega) h2.2
        rw [if_pos p2] at e; omega
      · omega
  · intro e; unfold mval; rw [e]
/-- the model of a case -/
def modS (a : Asn) (c : List Int) : Ste := ⟨modV c, heapS (modV c) blank8 (filledL a.atoms c)⟩
theorem heapS_map (vs : List Int) (f : Atm → Atm) : ∀ (xs : List Atm) (h : List Int), (∀ x ∈ xs, tval vs (f x).a = tval vs x.a ∧ tval vs (f x).b = tval vs x.b) → heapS vs h (xs.map f) = heapS vs h xs := by
  intro xs
  induction xs with
  | nil => intro h _; rfl
  | cons x xs ih =>
    intro h hx
    have h1 := hx x List.mem_cons_self
    show heapS vs (h.set (tval vs (f x).a - 1).toNat (tval vs (f x).b)) (xs.map f) = heapS vs (h.set (tval vs x.a - 1).toNat (tval vs x.b)) xs
    rw [h1.1, h1.2]
    exact ih _ fun y hy => hx y (List.mem_cons_of_mem _ hy)
theorem model_law {a : Asn} (hv : a.valid = true) {S : Nat} (h0 : S.testBit 0 = true) (hS : ∀ t ∈ termsL a, S.testBit t.toNat = true) {c : List Int} (hc : c ∈ cases a S) : Sat (tval (modV c)) a ∧ holdsF (modS a c) a = true ∧ canon (tval (modV c)) S = c := by
  obtain ⟨h9, hC, -⟩ := case_iff.1 hc
  have hC : Cls S c := hC
  have hz := hC.zero h0
  have hok := termsL_ok hv
  have hval : ∀ t : Int, (t = 0 ∨ t ∈ termsL a) → ∃ j : Nat, j < 9 ∧ S.testBit j = true ∧ t = j := fun t ht => by
    rcases ht with rfl | ht
    · exact ⟨0, by omega, h0, rfl⟩
    · have h1 := isTermB_iff.1 (hok t ht)
      exact ⟨t.toNat, by omega, hS t ht, (Int.toNat_of_nonneg h1.1).symm⟩
  have hM : ∀ i j : Nat, i < 9 → j < 9 → S.testBit i = true → S.testBit j = true → (tval (modV c) i = tval (modV c) j ↔ cl c i = cl c j) := fun i j hi hj bi bj => by
    rw [tval_mod hz (by omega) (by omega), tval_mod hz (by omega) (by omega)]
    exact mval_eq hC hi hj bi bj
  have hsat : Sat (tval (modV c)) a := (case_sat hv h0 hc).same fun s t hs ht => by
    obtain ⟨i, hi, bi, rfl⟩ := hval s hs
    obtain ⟨j, hj, bj, rfl⟩ := hval t ht
    exact hM i j hi hj bi bj
  have hcls : ∀ t ∈ termsL a, tval (modV c) (cl c t) = tval (modV c) t := fun t ht => by
    obtain ⟨j, hj, bj, rfl⟩ := hval t (Or.inr ht)
    have h1 := (hC j hj).1 bj
    rw [tval_mod hz (by omega) (by omega), tval_mod hz (by omega) (by omega)]
    unfold mval
    rw [h1.2]
  refine ⟨hsat, ?_, ?_⟩
  · have e : heapS (modV c) blank8 (filledL a.atoms c) = heapS (modV c) blank8 (a.atoms.filter (fillM (tval (modV c)))) := by
      unfold filledL
      have hfill : ∀ x ∈ a.atoms, Atm.fill c x = fillM (tval (modV c)) x := fun x hx => by
        have hX : x.a ∈ termsL a ∧ x.b ∈ termsL a := by
          simp only [termsL, List.mem_append, List.mem_flatMap]
          exact ⟨Or.inr ⟨x, hx, by simp [atomT]⟩, Or.inr ⟨x, hx, by simp [atomT]⟩⟩
        obtain ⟨i, hi, bi, ei⟩ := hval _ (Or.inr hX.1)
        obtain ⟨j, hj, bj, ej⟩ := hval _ (Or.inr hX.2)
        unfold Atm.fill fillM
        congr 2
        rw [decide_eq_decide, ei, ej]
        exact (hM i j hi hj bi bj).symm
      rw [List.filter_congr hfill]
      refine heapS_map _ _ _ _ fun x hx => ?_
      have hx := (List.mem_filter.1 hx).1
      have hX : x.a ∈ termsL a ∧ x.b ∈ termsL a := by
        simp only [termsL, List.mem_append, List.mem_flatMap]
        exact ⟨Or.inr ⟨x, hx, by simp [atomT]⟩, Or.inr ⟨x, hx, by simp [atomT]⟩⟩
      exact ⟨hcls _ hX.1, hcls _ hX.2⟩
    unfold modS
    rw [e]
    exact one_cell (modV_ok c).1 (modV_ok c).2 hv hsat
  · refine (canon_ext h9 fun j hj => ?_).symm
    unfold caseAt
    cases hb : S.testBit j
    · exact (hC j hj).2 hb
    · rw [if_pos rfl]
      have h1 := (hC j hj).1 hb
      obtain ⟨k, hk⟩ := Int.eq_ofNat_of_zero_le h1.1.1
      have hkb : S.testBit k = true := by
        cases e : S.testBit k
        · have h2 := (hC k (by omega)).2 e
          have h3 := h1.2
          rw [hk, h2] at h3
          omega
        · rfl
      rw [least_is (k := k) hkb hb ((hM k j (by omega) hj hkb hb).2 (by rw [← hk]; exact h1.2)) (fun i hi hib e => by
        have h2 := ((hC i (by omega)).1 hib).1.2
        have h3 := (hM i j (by omega) hj hib hb).1 e
        omega), hk]
/-- ModelOf: the model of the first case -/
def modelL (a : Asn) : Ste := modS a ((cases a (caseS a 0)).head?.getD zeros)
theorem modelL_law {a : Asn} (h : consB a = true) : a.valid = true ∧ holdsF (modelL a) a = true ∧ ∃ c cs, cases a (caseS a 0) = c :: cs ∧ caseOfF (modelL a) a = c := by
  have hv : a.valid = true := (consB_iff.1 h).1
  unfold consB at h
  unfold modelL
  cases hc : cases a (caseS a 0) with
  | nil => rw [hc, hv] at h; cases h
  | cons c cs =>
    obtain ⟨-, h1, h2⟩ := model_law hv (caseS_zero a 0) (caseS_terms hv 0) (c := c) (by rw [hc]; exact List.mem_cons_self)
    exact ⟨hv, h1, c, cs, rfl, h2⟩
end Go.Proofs.Yteogcababfenfaa

/- The model of a case, step by step. Plain; no program. -/
namespace Go.Proofs.Yteogcababfenfaa
open Go Go.RowKit

/-- values in the rounds below t -/
def modT (c : List Int) (t : Nat) : List Int := (List.range' 1 8).map fun j : Nat => if j < t then mval c (j : Int) else 0
theorem modT_len (c : List Int) (t : Nat) : (modT c t).length = 8 := by simp [modT]
theorem modT_start (c : List Int) : modT c 1 = List.replicate 8 0 := by
  unfold modT
  rw [List.map_congr_left (g := fun _ => 0) (fun j hj => by rw [List.mem_range'_1] at hj; rw [if_neg (by omega)])]
  rfl
theorem modT_end (c : List Int) : modT c 9 = modV c := by
  unfold modT modV
  exact List.map_congr_left fun j hj => by rw [List.mem_range'_1] at hj; rw [if_pos (by omega)]
theorem modT_get (c : List Int) {t k : Nat} (hk : k < 8) : (modT c t)[k]? = some (if k + 1 < t then mval c ((k + 1 : Nat) : Int) else 0) := by
  unfold modT
  rw [List.getElem?_map, List.getElem?_range' (by omega)]
  simp only [Option.map_some, Nat.one_mul]
  rw [Nat.add_comm 1 k]
theorem modT_cl (c : List Int) {t k : Nat} (hk : k < 8) : cl (modT c t) k = if k + 1 < t then mval c ((k + 1 : Nat) : Int) else 0 := by
  unfold cl; rw [Int.toNat_natCast, modT_get c hk]; rfl
theorem modT_set (c : List Int) {t : Nat} (h1 : 1 ≤ t) (h8 : t ≤ 8) : (modT c t).set (t - 1) (mval c (t : Int)) = modT c (t + 1) := by
  apply List.ext_getElem?
  intro j
  by_cases hj : j < 8
  · rw [modT_get c hj]
    by_cases e : j = t - 1
    · subst e
      rw [List.getElem?_set_self (by rw [modT_len]; omega), if_pos (by omega), show t - 1 + 1 = t from by omega]
    · rw [List.getElem?_set_ne (by omega), modT_get c hj]
      by_cases h : j + 1 < t
      · rw [if_pos h, if_pos (by omega)]
      · rw [if_neg h, if_neg (by omega)]
  · rw [List.getElem?_eq_none (by rw [List.length_set, modT_len]; omega), List.getElem?_eq_none (by rw [modT_len]; omega)]
theorem modT_keep (c : List Int) {t : Nat} (h1 : 1 ≤ t) (h8 : t ≤ 8) (hz : mval c (t : Int) = 0) : modT c (t + 1) = modT c t := by
  apply List.ext_getElem?
  intro j
  by_cases hj : j < 8
  · rw [modT_get c hj, modT_get c hj]
    by_cases e : j + 1 = t
    · rw [if_pos (by omega), if_neg (by omega), e, hz]
    · by_cases h : j + 1 < t
      · rw [if_pos h, if_pos (by omega)]
      · rw [if_neg h, if_neg (by omega)]
  · rw [List.getElem?_eq_none (by rw [modT_len]; omega), List.getElem?_eq_none (by rw [modT_len]; omega)]
theorem rk_zero (c : List Int) : rk c 0 = 0 := by
  unfold rk
  rw [List.length_eq_zero_iff, List.filter_eq_nil_iff]
  intro j hj
  rw [List.mem_range'_1] at hj
  rw [decide_eq_false (by omega : ¬ (j : Int) ≤ 0), Bool.false_and]
  decide
theorem rk_step (c : List Int) {t : Nat} (h1 : 1 ≤ t) (h8 : t ≤ 8) : rk c (t : Int) = rk c ((t : Int) - 1) + (if cl c (t : Int) = t then 1 else 0) := by
  unfold rk
  rw [← List.countP_eq_length_filter, ← List.countP_eq_length_filter]
  have e : (List.range' 1 8) = List.range' 1 (t - 1) ++ t :: List.range' (t + 1) (8 - t) := by
    have h2 : List.range' 1 8 = List.range' 1 (t - 1) ++ List.range' t (8 - t + 1) := by
      have := List.range'_append_1 (s := 1) (m := t - 1) (n := 8 - t + 1)
      rw [show 1 + (t - 1) = t from by omega, show t - 1 + (8 - t + 1) = 8 from by omega] at this
      exact this.symm
    rw [h2, List.range'_succ]
  rw [e, List.countP_append, List.countP_append, List.countP_cons, List.countP_cons]
  have f1 : ∀ (p q : Nat → Bool), (∀ j ∈ List.range' 1 (t - 1), p j = q j) → (List.range' 1 (t - 1)).countP p = (List.range' 1 (t - 1)).countP q := fun p q h => List.countP_congr fun j hj => by rw [h j hj]
  have f2 : ∀ (p : Nat → Bool), (∀ j ∈ List.range' (t + 1) (8 - t), p j = false) → (List.range' (t + 1) (8 - t)).countP p = 0 := fun p h => List.countP_eq_zero.2 fun j hj => by rw [h j hj]; decide
  rw [f1 (fun j : Nat => decide ((j : Int) ≤ (t : Int)) && decide (cl c (j : Int) = j)) (fun j : Nat => decide ((j : Int) ≤ (t : Int) - 1) && decide (cl c (j : Int) = j)) (fun j hj => by
    rw [List.mem_range'_1] at hj
    rw [decide_eq_true (by omega : (j : Int) ≤ (t : Int)), decide_eq_true (by omega : (j : Int) ≤ (t : Int) - 1)])]
  rw [f2 _ (fun j hj => by rw [List.mem_range'_1] at hj; rw [decide_eq_false (by omega : ¬ (j : Int) ≤ (t : Int))]; rfl)]
  rw [f2 _ (fun j hj => by rw [List.mem_range'_1] at hj; rw [decide_eq_false (by omega : ¬ (j : Int) ≤ (t : Int) - 1)]; rfl)]
  rw [decide_eq_true (by omega : (t : Int) ≤ (t : Int)), decide_eq_false (by omega : ¬ (t : Int) ≤ (t : Int) - 1)]
  by_cases h : cl c (t : Int) = t
  · rw [decide_eq_true h, if_pos h]; simp
  · rw [decide_eq_false h, if_neg h]; simp
/-- a round of the values: a new class, a term of an earlier class, a term without a class -/
theorem mval_root {c : List Int} {t : Nat} (h1 : 1 ≤ t) (h8 : t ≤ 8) (h : cl c (t : Int) = t) : mval c (t : Int) = (rk c ((t : Int) - 1) + 1 : Nat) ∧ rk c (t : Int) = rk c ((t : Int) - 1) + 1 := by
  have e := rk_step c h1 h8
  rw [if_pos h] at e
  unfold mval
  rw [h, if_pos (by omega), e]
  exact ⟨rfl, rfl⟩
theorem rk_same {c : List Int} {t : Nat} (h1 : 1 ≤ t) (h8 : t ≤ 8) (h : cl c (t : Int) ≠ t) : rk c (t : Int) = rk c ((t : Int) - 1) := by
  rw [rk_step c h1 h8, if_neg h]; rfl
theorem mval_old {c : List Int} {t r : Nat} (hr : cl c (t : Int) = r) (hi : cl c (r : Int) = r) : mval c (r : Int) = mval c (t : Int) := by
  unfold mval; rw [hr, hi]
theorem mval_none {c : List Int} {t : Nat} (h : cl c (t : Int) ≤ 0) : mval c (t : Int) = 0 := by unfold mval; rw [if_neg (by omega)]
/-- what the classes of a case are like -/
structure Csd (c : List Int) : Prop where
  len : c.length = 9
  zero : cl c 0 = 0
  le : ∀ j : Nat, j < 9 → -1 ≤ cl c j ∧ cl c j ≤ j
  idem : ∀ j : Nat, j < 9 → 0 ≤ cl c j → cl c (cl c j) = cl c j
theorem csd_of {a : Asn} {S : Nat} (h0 : S.testBit 0 = true) {c : List Int} (hc : c ∈ cases a S) : Csd c := by
  obtain ⟨h9, hC, -⟩ := case_iff.1 hc
  have hz := (show Cls S c from hC).zero h0
  refine ⟨h9, hz, fun j hj => ?_, fun j hj h => ?_⟩
  · cases hb : S.testBit j
    · have := (hC j hj).2 hb; omega
    · have := ((hC j hj).1 hb).1; omega
  · cases hb : S.testBit j
    · have := (hC j hj).2 hb; omega
    · exact ((hC j hj).1 hb).2
/-- the filled atoms of a case -/
theorem filled_ok {a : Asn} (hv : a.valid = true) {S : Nat} (h0 : S.testBit 0 = true) (hS : ∀ t ∈ termsL a, S.testBit t.toNat = true) {c : List Int} (hc : c ∈ cases a S) :
    ∀ x ∈ filledL a.atoms c, (0 ≤ x.a ∧ x.a ≤ 8) ∧ (0 ≤ x.b ∧ x.b ≤ 8) ∧ (1 ≤ tval (modV c) x.a ∧ tval (modV c) x.a ≤ 8) ∧ 0 ≤ tval (modV c) x.b ∧ tval (modV c) x.b ≤ 8 := by
  intro x hx
  obtain ⟨h9, hC, hfull⟩ := case_iff.1 hc
  have hC : Cls S c := hC
  have hz := hC.zero h0
  have hM := model_law hv h0 hS hc
  unfold filledL at hx
  obtain ⟨y, hy, rfl⟩ := List.mem_map.1 hx
  rw [List.mem_filter] at hy
  have hX : y.a ∈ termsL a ∧ y.b ∈ termsL a := by
    simp only [termsL, List.mem_append, List.mem_flatMap]
    exact ⟨Or.inr ⟨y, hy.1, by simp [atomT]⟩, Or.inr ⟨y, hy.1, by simp [atomT]⟩⟩
  have hcl : ∀ t ∈ termsL a, (0 ≤ cl c t ∧ cl c t ≤ 8) ∧ cl c (cl c t) = cl c t := fun t ht => by
    have h1 := isTermB_iff.1 (termsL_ok hv t ht)
    have h2 := (hC t.toNat (by omega)).1 (hS t ht)
    rw [Int.toNat_of_nonneg h1.1] at h2
    exact ⟨by omega, h2.2⟩
  have ha := hcl _ hX.1
  have hb := hcl _ hX.2
  have hva := tval_le (modV_ok c).2 (cl c y.a)
  have hvb := tval_le (modV_ok c).2 (cl c y.b)
  refine ⟨ha.1, hb.1, ⟨?_, hva.2⟩, hvb⟩
  show 1 ≤ tval (modV c) (cl c y.a)
  rw [tval_mod hz ha.1.1 ha.1.2]
  have hne : cl c y.a ≠ 0 := fun e => by
    have hs := case_sat hv h0 hc
    refine hs.nil y hy.1 ?_ (by rw [e, hz])
    exact hy.2
  unfold mval
  rw [ha.2, if_pos (by omega)]
  have := rk_pos (c := c) (k := cl c y.a) (by omega) ha.1.2 ha.2
  omega
theorem heapS_take (vs h : List Int) (xs : List Atm) {k : Nat} (hk : k < xs.length) : heapS vs h (xs.take (k + 1)) = (heapS vs h (xs.take k)).set (tval vs xs[k].a - 1).toNat (tval vs xs[k].b) := by
  unfold heapS
  rw [List.take_succ_eq_append_getElem hk, List.foldl_append]
  rfl
theorem heapS_len (vs : List Int) : ∀ (xs : List Atm) (h : List Int), (heapS vs h xs).length = h.length := by
  intro xs
  induction xs with
  | nil => intro h; rfl
  | cons x xs ih => intro h; show (heapS vs (h.set _ _) xs).length = _; rw [ih, List.length_set]
def blankTo (k : Nat) : List Int := List.replicate k (-1) ++ List.replicate (8 - k) 0
theorem blankTo_len {k : Nat} (h : k ≤ 8) : (blankTo k).length = 8 := by simp [blankTo]; omega
theorem blankTo_set {k : Nat} (h : k < 8) : (blankTo k).set k (-1) = blankTo (k + 1) := by
  unfold blankTo
  rw [List.set_append_right _ _ (by simp), List.length_replicate, Nat.sub_self, show 8 - k = (8 - (k + 1)) + 1 from by omega, List.replicate_succ, List.set_cons_zero, List.replicate_succ', List.append_assoc]
  rfl
end Go.Proofs.Yteogcababfenfaa
